/- A text of this claim: parts TrE TrF TrG TrH TrI TrJ. No condition. -/
import Derived.Test.YtglbcfkmaamhaaaJG8
import Derived.Test.YtglbcfkmaamhaaaJG2
import Derived.Test.YtglbcfkmaamhaaaJG0
set_option linter.unusedVariables false
set_option linter.unusedSimpArgs false
set_option maxHeartbeats 16000000
set_option maxRecDepth 100000
namespace Go.Proofs.Ytglbcfkmaamhaaa.Tr
open Go Go.RowKit Go.Proofs.YtglbcfkmaamhaaaW.PrintWords Go.Proofs.YtglbcfkmaamhaaaW.PrintLast Go.Proofs.YtglbcfkmaamhaaaW.PrintMore Go.Proofs.Ytglbcfkmaamhaaa.Hv Go.Proofs.Ytglbcfkmaamhaaa.Arm Go.Proofs.Ytglbcfkmaamhaaa.Nd Go.Proofs.Ytglbcfkmaamhaaa.ArN
section
variable {w0 w w1 : World} {L L' R : List Ob} {K : Nat × Nat × Nat} {t : Tm} {on : Value}
theorem neqF (f : FuncId) (cap : Array Value) (w : World) : (binOp .neq 158 (.func (.func f) #[] cap) .nilFunc).run Try.prog w = .ok (.bool true) w := by
 kernel_rfl
theorem downC.calls {X0 : List Ob} {m gc : Nat} {F : FuncId} {fnc : Func} (hF : Try.prog.funcs[F]? = some fnc) (hFn : (fnc.name == "runtime.NumGoroutine") = false) (hFb : fnc.body.isSome = true) {J : List (Rf × Nat) → List Ob → Prop} (h : Mt w0 w K t on R (X0 ++ L)) (hJ0 : J [] X0) (key : ByteArray) {l : List (Rf × Nat)} {q : Rf} (hd : Dn t key t.root l q) (hm : l.length ≤ m)
  (hCB : ∀ (W : World) (B X : List Ob) (p : List (Rf × Nat)) (r : Rf) (n : Nd.Nd) (ka : Option Addr) (kc : Nat) (ra : Option Addr) (rc k : Nat), Mt w0 W K t (.func (.func F) #[] #[.pointer (some ⟨gc, 0, none⟩)]) R (B ++ (X ++ L)) → J p X → p.length < m → NR w0 R n ka kc ra rc → t.at r = n → n.child key = k →
   Calls Try.prog F #[.agg #[.int .i64 r.1, .int .i64 r.2], .agg #[.bool n.leaf, .int .i64 n.ver, .slice ka n.keys.length kc, .slice ra n.refs.length rc], .int .i64 (k : Int), .pointer (some ⟨gc, 0, none⟩)] W fun e w' => e = .returned (.tuple #[]) ∧ ∃ X', J (p ++ [(r, k)]) X' ∧ Mt w0 w' K t (.func (.func F) #[] #[.pointer (some ⟨gc, 0, none⟩)]) R (B ++ (X' ++ L))) :
  Calls Try.prog 126 #[.pointer (some ⟨K.1, 0, none⟩), .string key, (.func (.func F) #[] #[.pointer (some ⟨gc, 0, none⟩)])] w fun e w' => e = .returned (.agg #[.int .i64 q.1, .int .i64 q.2]) ∧ ∃ X, J l X ∧ Mt w0 w' K t .nilFunc R (X ++ L) := by
 have HCB := As hCB
 have HJ0 := As hJ0
 have HF := As (And.intro hF (And.intro hFn hFb))
 have HMM := As hm
 clear hCB hJ0 hF hFn hFb hm
 have hu59 := Try.underlying59
 have hu33 := Try.underlying33
 have hu31 := Try.underlying31
 have hu80 := Try.underlying80
 have hu160 := Try.underlying160
 have hmf : ∀ (fn : Fn) (first cap : Array Value) (w : World), (Instr.makeFunc fn first cap).run Try.prog w = .ok (.func fn first cap) w := fun _ _ _ _ => rfl
 have HM := As (show Mt w0 _ K t on R (cb (w.heap.size + 1) 33 #[.int .i64 0, .int .i64 0] :: cb w.heap.size 80 #[.pointer (some ⟨K.1, 0, none⟩)] :: (X0 ++ L)) by
  have := (h.alloc (.cells #[.pointer (some ⟨K.1, 0, none⟩)] 80)).alloc (.cells #[.int .i64 0, .int .i64 0] 33)
  simpa [cb] using this)
 have hne := h.ne
 have x1 := hne.1
 have x2 := hne.2
 have x3 := (HM.out.apart (p := cb (w.heap.size + 1) 33 #[.int .i64 0, .int .i64 0]) (by simp)).1
 have x4 := (HM.out.apart (p := cb (w.heap.size + 1) 33 #[.int .i64 0, .int .i64 0]) (by simp)).2
 simp only [cb] at x3 x4
 clear hne h
 obtain ⟨c0, c1, c2, c4, cf1, cf2, cf4⟩ := HM.out.cells
 go_enter_defers Try.func126, Try.ntmps126
 go_upto_region 4 with (fail)
 obtain ⟨WL, hW, hM⟩ : ∃ W, W = _ ∧ Mt w0 W K t (.func (.func F) #[] #[.pointer (some ⟨gc, 0, none⟩)]) R (cb (w.heap.size + 1 + 1) 33 #[.int .i64 t.root.1, .int .i64 t.root.2] :: cb (w.heap.size + 1) 33 #[.int .i64 0, .int .i64 0] :: cb w.heap.size 80 #[.pointer (some ⟨K.1, 0, none⟩)] :: (X0 ++ L)) := ⟨_, rfl, by have := (HM.out.setOn (.func (.func F) #[] #[.pointer (some ⟨gc, 0, none⟩)])).alloc (.cells #[.int .i64 t.root.1, .int .i64 t.root.2] 33); simpa [cb] using this⟩
 rw [← hW]
 have HM := As hM
 clear hW hM c0 c1 c2 c4 cf1 cf2 cf4 x1 x2 x3 x4
 go_loopg [] l.length (fun kq wr => ∃ (r : Rf) (l' p : List (Rf × Nat)) (X : List Ob), Dn t key r l' q ∧ p ++ l' = l ∧ kq = l'.length ∧ Aside0 (J p X) ∧ Aside0 (Mt w0 wr K t (.func (.func F) #[] #[.pointer (some ⟨gc, 0, none⟩)]) R (cb (w.heap.size + 1 + 1) 33 #[.int .i64 r.1, .int .i64 r.2] :: cb (w.heap.size + 1) 33 #[.int .i64 0, .int .i64 0] :: cb w.heap.size 80 #[.pointer (some ⟨K.1, 0, none⟩)] :: (X ++ L))))
 case atStart => exact ⟨t.root, l, [], X0, hd, rfl, rfl, HJ0, HM⟩
 case round =>
  obtain ⟨r, l', p, X, hdn, hpl, rfl, HJ, HW⟩ := hrel
  have HP := As hpl
  clear hpl
  clear HM hd
  obtain ⟨n, hn⟩ : ∃ n, t.at r = n := ⟨_, rfl⟩
  obtain ⟨c0, c1, c2, c4, cf1, cf2, cf4⟩ := HW.out.cells
  obtain ⟨p0, p1, pf0, pf1⟩ := HW.out.other.c2 (w.heap.size + 1 + 1) 33 (.int .i64 r.1) (.int .i64 r.2) (by simp)
  obtain ⟨s0, s1, sf0, sf1⟩ := HW.out.other.c2 (w.heap.size + 1) 33 (.int .i64 0) (.int .i64 0) (by simp)
  obtain ⟨t0, tf0⟩ := HW.out.other.c1 w.heap.size 80 (.pointer (some ⟨K.1, 0, none⟩)) (by simp)
  rcases hdn.inv with ⟨hl, rfl, hq⟩ | ⟨r', l2, hl, ho, hk, hd', rfl⟩
  ·clear hdn
   have HL := As (show n.leaf = true by rw [← hn]; exact hl)
   have HQ := As hq
   clear hl hq
   go_upto_region 5 with (go_at_call 111; go_loud (refine (at.calls HW.out r).mono ?_); rintro e2 w2 ⟨v, rfl, hnv, hm⟩; rw [hn] at hnv; obtain ⟨ka, kc, ra, rc, ev, hr⟩ := hnv; have ev' : v = .agg #[.bool n.leaf, .int .i64 n.ver, .slice ka n.keys.length kc, .slice ra n.refs.length rc] := ev; subst ev'; clear ev; have HN := As hr; have H2 := As hm; clear hm hr; clear c0 c1 c2 c4 cf1 cf2 cf4 p0 p1 pf0 pf1 s0 s1 sf0 sf1 t0 tf0; obtain ⟨c0, c1, c2, c4, cf1, cf2, cf4⟩ := H2.out.cells; obtain ⟨p0, p1, pf0, pf1⟩ := H2.out.other.c2 (w.heap.size + 1 + 1) 33 (.int .i64 r.1) (.int .i64 r.2) (by simp); obtain ⟨s0, s1, sf0, sf1⟩ := H2.out.other.c2 (w.heap.size + 1) 33 (.int .i64 0) (.int .i64 0) (by simp); obtain ⟨t0, tf0⟩ := H2.out.other.c1 w.heap.size 80 (.pointer (some ⟨K.1, 0, none⟩)) (by simp))
   obtain ⟨W3, hW, hM⟩ : ∃ W, W = w2.alloc (.cells #[.bool n.leaf, .int .i64 n.ver, .slice ka n.keys.length kc, .slice ra n.refs.length rc] 59) ∧ Mt w0 W K t (.func (.func F) #[] #[.pointer (some ⟨gc, 0, none⟩)]) R (cb w2.heap.size 59 #[.bool n.leaf, .int .i64 n.ver, .slice ka n.keys.length kc, .slice ra n.refs.length rc] :: cb (w.heap.size + 1 + 1) 33 #[.int .i64 r.1, .int .i64 r.2] :: cb (w.heap.size + 1) 33 #[.int .i64 0, .int .i64 0] :: cb w.heap.size 80 #[.pointer (some ⟨K.1, 0, none⟩)] :: (X ++ L)) := ⟨_, rfl, H2.out.alloc _⟩
   rw [← hW]
   have H3 := As hM
   clear hW hM
   clear c0 c1 c2 c4 cf1 cf2 cf4 p0 p1 pf0 pf1 s0 s1 sf0 sf1 t0 tf0
   generalize w2.heap.size = g8 at H3 ⊢
   obtain ⟨c0, c1, c2, c4, cf1, cf2, cf4⟩ := H3.out.cells
   obtain ⟨p0, p1, pf0, pf1⟩ := H3.out.other.c2 (w.heap.size + 1 + 1) 33 (.int .i64 r.1) (.int .i64 r.2) (by simp)
   obtain ⟨s0, s1, sf0, sf1⟩ := H3.out.other.c2 (w.heap.size + 1) 33 (.int .i64 0) (.int .i64 0) (by simp)
   obtain ⟨t0, tf0⟩ := H3.out.other.c1 w.heap.size 80 (.pointer (some ⟨K.1, 0, none⟩)) (by simp)
   obtain ⟨n0, n1, n2, n3, -, -, -, -⟩ := H3.out.other.c4 g8 59 (.bool n.leaf) (.int .i64 n.ver) (.slice ka n.keys.length kc) (.slice ra n.refs.length rc) (by simp)
   have hlf := HL.out
   go_wp2_with fail
   obtain ⟨W5, hW, hM⟩ : ∃ W, W = (W3.setCell ⟨w.heap.size + 1, 0, none⟩ (.int .i64 r.1)).setCell ⟨w.heap.size + 1, 1, none⟩ (.int .i64 r.2) ∧ Mt w0 W K t (.func (.func F) #[] #[.pointer (some ⟨gc, 0, none⟩)]) R (cb g8 59 #[.bool n.leaf, .int .i64 n.ver, .slice ka n.keys.length kc, .slice ra n.refs.length rc] :: cb (w.heap.size + 1 + 1) 33 #[.int .i64 r.1, .int .i64 r.2] :: cb (w.heap.size + 1) 33 #[.int .i64 r.1, .int .i64 r.2] :: cb w.heap.size 80 #[.pointer (some ⟨K.1, 0, none⟩)] :: (X ++ L)) := ⟨_, rfl, (H3.out.putB2 0 (.int .i64 r.1) rfl).putB2 1 (.int .i64 r.2) rfl⟩
   rw [← hW]
   clear c0 c1 c2 c4 cf1 cf2 cf4 p0 p1 pf0 pf1 s0 s1 sf0 sf1 t0 tf0 n0 n1 n2 n3
   obtain ⟨t0, -⟩ := hM.other.c1 w.heap.size 80 (.pointer (some ⟨K.1, 0, none⟩)) (by simp)
   obtain ⟨-, -, -, c4, -, -, cf4⟩ := hM.cells
   refine leaves_cons (f := 148) (args := #[.pointer (some ⟨w.heap.size, 0, none⟩)]) (by simp) (by simp [go_sem]) ?_
   refine (off.calls .returning W5 ⟨w.heap.size, 0, none⟩ K.1 (.func (.func F) #[] #[.pointer (some ⟨gc, 0, none⟩)]) t0 c4 cf4).mono ?_
   rintro e u' w'' ⟨rfl, rfl, rfl⟩
   have hM2 := hM.setOn .nilFunc
   obtain ⟨e0, e1, -, -⟩ := hM2.other.c2 (w.heap.size + 1) 33 (.int .i64 r.1) (.int .i64 r.2) (by simp)
   exact ⟨.agg #[.int .i64 r.1, .int .i64 r.2], by simp [results, Try.results126, go_sem, e0, e1, hu33], by rw [HQ.out], ⟨X, by have := HP.out; rw [List.append_nil] at this; rw [← this]; exact HJ.out, hM2.tail.tail.tail.tail⟩⟩
  ·clear hdn
   rw [hn] at hl ho hk
   have HL := As (And.intro hl (And.intro ho (And.intro hk hd')))
   clear hl ho hk hd'
   go_upto_region 5 with (go_at_call 111; go_loud (refine (at.calls HW.out r).mono ?_); rintro e2 w2 ⟨v, rfl, hnv, hm⟩; rw [hn] at hnv; obtain ⟨ka, kc, ra, rc, ev, hr⟩ := hnv; have ev' : v = .agg #[.bool n.leaf, .int .i64 n.ver, .slice ka n.keys.length kc, .slice ra n.refs.length rc] := ev; subst ev'; clear ev; have HN := As hr; have H2 := As hm; clear hm hr; clear c0 c1 c2 c4 cf1 cf2 cf4 p0 p1 pf0 pf1 s0 s1 sf0 sf1 t0 tf0; obtain ⟨c0, c1, c2, c4, cf1, cf2, cf4⟩ := H2.out.cells; obtain ⟨p0, p1, pf0, pf1⟩ := H2.out.other.c2 (w.heap.size + 1 + 1) 33 (.int .i64 r.1) (.int .i64 r.2) (by simp); obtain ⟨s0, s1, sf0, sf1⟩ := H2.out.other.c2 (w.heap.size + 1) 33 (.int .i64 0) (.int .i64 0) (by simp); obtain ⟨t0, tf0⟩ := H2.out.other.c1 w.heap.size 80 (.pointer (some ⟨K.1, 0, none⟩)) (by simp))
   obtain ⟨W3, hW, hM⟩ : ∃ W, W = w2.alloc (.cells #[.bool n.leaf, .int .i64 n.ver, .slice ka n.keys.length kc, .slice ra n.refs.length rc] 59) ∧ Mt w0 W K t (.func (.func F) #[] #[.pointer (some ⟨gc, 0, none⟩)]) R (cb w2.heap.size 59 #[.bool n.leaf, .int .i64 n.ver, .slice ka n.keys.length kc, .slice ra n.refs.length rc] :: cb (w.heap.size + 1 + 1) 33 #[.int .i64 r.1, .int .i64 r.2] :: cb (w.heap.size + 1) 33 #[.int .i64 0, .int .i64 0] :: cb w.heap.size 80 #[.pointer (some ⟨K.1, 0, none⟩)] :: (X ++ L)) := ⟨_, rfl, H2.out.alloc _⟩
   rw [← hW]
   have H3 := As hM
   clear hW hM
   clear c0 c1 c2 c4 cf1 cf2 cf4 p0 p1 pf0 pf1 s0 s1 sf0 sf1 t0 tf0
   generalize w2.heap.size = g8 at H3 ⊢
   obtain ⟨c0, c1, c2, c4, cf1, cf2, cf4⟩ := H3.out.cells
   obtain ⟨p0, p1, pf0, pf1⟩ := H3.out.other.c2 (w.heap.size + 1 + 1) 33 (.int .i64 r.1) (.int .i64 r.2) (by simp)
   obtain ⟨s0, s1, sf0, sf1⟩ := H3.out.other.c2 (w.heap.size + 1) 33 (.int .i64 0) (.int .i64 0) (by simp)
   obtain ⟨t0, tf0⟩ := H3.out.other.c1 w.heap.size 80 (.pointer (some ⟨K.1, 0, none⟩)) (by simp)
   obtain ⟨n0, n1, n2, n3, -, -, -, -⟩ := H3.out.other.c4 g8 59 (.bool n.leaf) (.int .i64 n.ver) (.slice ka n.keys.length kc) (.slice ra n.refs.length rc) (by simp)
   have hlf := HL.out.1
   go_upto_region 7 with (fail)
   clear hlf
   obtain ⟨k, hkk⟩ : ∃ k, n.child key = k := ⟨_, rfl⟩
   have HK := As hkk
   obtain ⟨Lf, hL, hRf, hLf, back⟩ := H3.out.lens
   have HLf := As (And.intro hL (And.intro hRf (And.intro hLf back)))
   clear hL hRf hLf back hkk
   go_upto_region 8 with (go_at_call 40; go_loud (refine (child.calls (w0 := w0) HLf.out.1 (NV.mono ⟨ka, kc, ra, rc, rfl, HN.out⟩ HLf.out.2.1) HL.out.2.1 key).mono ?_); rw [HK.out]; rintro e4 w4 ⟨rfl, hh⟩; have H4 := As (show Mt w0 w4 K t (.func (.func F) #[] #[.pointer (some ⟨gc, 0, none⟩)]) R (cb g8 59 #[.bool n.leaf, .int .i64 n.ver, .slice ka n.keys.length kc, .slice ra n.refs.length rc] :: cb (w.heap.size + 1 + 1) 33 #[.int .i64 r.1, .int .i64 r.2] :: cb (w.heap.size + 1) 33 #[.int .i64 0, .int .i64 0] :: cb w.heap.size 80 #[.pointer (some ⟨K.1, 0, none⟩)] :: (X ++ L)) from HLf.out.2.2.2 w4 [] hh); clear hh; clear c0 c1 c2 c4 cf1 cf2 cf4 p0 p1 pf0 pf1 s0 s1 sf0 sf1 t0 tf0 n0 n1 n2 n3; obtain ⟨c0, c1, c2, c4, cf1, cf2, cf4⟩ := H4.out.cells; obtain ⟨p0, p1, pf0, pf1⟩ := H4.out.other.c2 (w.heap.size + 1 + 1) 33 (.int .i64 r.1) (.int .i64 r.2) (by simp); obtain ⟨s0, s1, sf0, sf1⟩ := H4.out.other.c2 (w.heap.size + 1) 33 (.int .i64 0) (.int .i64 0) (by simp); obtain ⟨t0, tf0⟩ := H4.out.other.c1 w.heap.size 80 (.pointer (some ⟨K.1, 0, none⟩)) (by simp); obtain ⟨n0, n1, n2, n3, -, -, -, -⟩ := H4.out.other.c4 g8 59 (.bool n.leaf) (.int .i64 n.ver) (.slice ka n.keys.length kc) (.slice ra n.refs.length rc) (by simp))
   have hnf := neqF F #[.pointer (some ⟨gc, 0, none⟩)]
   go_upto_region 9 with (fail)
   clear hnf
   have SP := As (show ∀ (w' : World) (X : List Ob), Mt w0 w' K t (.func (.func F) #[] #[.pointer (some ⟨gc, 0, none⟩)]) R ([cb g8 59 #[.bool n.leaf, .int .i64 n.ver, .slice ka n.keys.length kc, .slice ra n.refs.length rc], cb (w.heap.size + 1 + 1) 33 #[.int .i64 r.1, .int .i64 r.2], cb (w.heap.size + 1) 33 #[.int .i64 0, .int .i64 0], cb w.heap.size 80 #[.pointer (some ⟨K.1, 0, none⟩)]] ++ (X ++ L)) → (w'.cell? ⟨K.1, 4, none⟩ = some (.func (.func F) #[] #[.pointer (some ⟨gc, 0, none⟩)]) ∧ w'.cell? ⟨w.heap.size, 0, none⟩ = some (.pointer (some ⟨K.1, 0, none⟩)) ∧ w'.cell? ⟨w.heap.size + 1 + 1, 0, none⟩ = some (.int .i64 r.1) ∧ w'.cell? ⟨w.heap.size + 1 + 1, 1, none⟩ = some (.int .i64 r.2) ∧ w'.cell? ⟨g8, 0, none⟩ = some (.bool n.leaf) ∧ w'.cell? ⟨g8, 1, none⟩ = some (.int .i64 n.ver) ∧ w'.cell? ⟨g8, 2, none⟩ = some (.slice ka n.keys.length kc) ∧ w'.cell? ⟨g8, 3, none⟩ = some (.slice ra n.refs.length rc)) from fun w' X h => by
    obtain ⟨-, -, -, c4, -, -, -⟩ := h.cells
    obtain ⟨t0, -⟩ := h.other.c1 w.heap.size 80 (.pointer (some ⟨K.1, 0, none⟩)) (by simp)
    obtain ⟨p0, p1, -, -⟩ := h.other.c2 (w.heap.size + 1 + 1) 33 (.int .i64 r.1) (.int .i64 r.2) (by simp)
    obtain ⟨n0, n1, n2, n3, -, -, -, -⟩ := h.other.c4 g8 59 (.bool n.leaf) (.int .i64 n.ver) (.slice ka n.keys.length kc) (.slice ra n.refs.length rc) (by simp)
    exact ⟨c4, t0, p0, p1, n0, n1, n2, n3⟩)
   have H9d := As (show Mt w0 w4.drew K t (.func (.func F) #[] #[.pointer (some ⟨gc, 0, none⟩)]) R ([cb g8 59 #[.bool n.leaf, .int .i64 n.ver, .slice ka n.keys.length kc, .slice ra n.refs.length rc], cb (w.heap.size + 1 + 1) 33 #[.int .i64 r.1, .int .i64 r.2], cb (w.heap.size + 1) 33 #[.int .i64 0, .int .i64 0], cb w.heap.size 80 #[.pointer (some ⟨K.1, 0, none⟩)]] ++ (X ++ L)) from H4.out.drew)
   clear c0 c1 c2 c4 cf1 cf2 cf4 p0 p1 pf0 pf1 s0 s1 sf0 sf1 t0 tf0 n0 n1 n2 n3
   refine wp_region_noPanic ?_
   refine start_ (n := 8) (S := fun w' => w'.cell? ⟨K.1, 4, none⟩ = some (.func (.func F) #[] #[.pointer (some ⟨gc, 0, none⟩)]) ∧ w'.cell? ⟨w.heap.size, 0, none⟩ = some (.pointer (some ⟨K.1, 0, none⟩)) ∧ w'.cell? ⟨w.heap.size + 1 + 1, 0, none⟩ = some (.int .i64 r.1) ∧ w'.cell? ⟨w.heap.size + 1 + 1, 1, none⟩ = some (.int .i64 r.2) ∧ w'.cell? ⟨g8, 0, none⟩ = some (.bool n.leaf) ∧ w'.cell? ⟨g8, 1, none⟩ = some (.int .i64 n.ver) ∧ w'.cell? ⟨g8, 2, none⟩ = some (.slice ka n.keys.length kc) ∧ w'.cell? ⟨g8, 3, none⟩ = some (.slice ra n.refs.length rc)) (ds := []) #[false, false, false, false, false, false, false, false] (by kernel_rfl) rfl rfl (SP.out _ _ H9d.out) (fun hHeld => ?_)
   generalize w4.drew = wr0 at H9d hHeld ⊢
   refine pu_ 6 (some 39) ?_
   refine ta_ 0 (some 33) hHeld ?_ (hy := Or.inl ⟨by rfl, by rintro w' ⟨s0, s1, s2, s3, s4, s5, s6, s7⟩; go_simp; with_reducible rfl⟩)
   refine pu_ 1 (some 34) ?_
   refine pu_ 2 (some 35) ?_
   refine ta_ 3 (some 36) hHeld ?_ (hy := Or.inl ⟨by rfl, by rintro w' ⟨s0, s1, s2, s3, s4, s5, s6, s7⟩; go_simp; with_reducible rfl⟩)
   refine ta_ 4 (some 37) hHeld ?_ (hy := Or.inl ⟨by rfl, by rintro w' ⟨s0, s1, s2, s3, s4, s5, s6, s7⟩; go_simp; with_reducible rfl⟩)
   refine ta_ 5 (some 38) hHeld ?_ (hy := Or.inl ⟨by rfl, by rintro w' ⟨s0, s1, s2, s3, s4, s5, s6, s7⟩; go_simp; with_reducible rfl⟩)
   refine on_ 7 (some 40) fun K_ hK => ?_
   refine goesF_ HF.out.1 HF.out.2.1 HF.out.2.2 #[.agg #[.int .i64 r.1, .int .i64 r.2], .agg #[.bool n.leaf, .int .i64 n.ver, .slice ka n.keys.length kc, .slice ra n.refs.length rc], .int .i64 (k : Int), .pointer (some ⟨gc, 0, none⟩)] (by rfl) rfl rfl (by first | rfl | (go_simp; done) | (go_simp; rfl)) (by simp only [List.map_toArray, List.map_cons, List.map_nil]; first | rfl | (go_simp; done) | (go_simp; rfl)) ?_
   refine (HCB.out _ [cb g8 59 #[.bool n.leaf, .int .i64 n.ver, .slice ka n.keys.length kc, .slice ra n.refs.length rc], cb (w.heap.size + 1 + 1) 33 #[.int .i64 r.1, .int .i64 r.2], cb (w.heap.size + 1) 33 #[.int .i64 0, .int .i64 0], cb w.heap.size 80 #[.pointer (some ⟨K.1, 0, none⟩)]] X p r n ka kc ra rc k H9d.out HJ.out (by have h1 := HP.out; have h2 := HMM.out; rw [← h1] at h2; simp at h2; omega) HN.out hn HK.out).mono ?_
   rintro e9 w9 ⟨rfl, X', hj', hh⟩
   refine ⟨_, rfl, ?_⟩
   have HJ2 := As hj'
   have H9 := As hh
   clear hh hj'
   refine hK.out _ _ (SP.out _ _ H9.out) (fun hHeld => ?_)
   clear hK K_
   refine nm_ ?_
   refine done_ (by kernel_rfl) ?_
   refine NoPanic.normal ?_
   obtain ⟨c0, c1, c2, c4, cf1, cf2, cf4⟩ := H9.out.cells
   obtain ⟨p0, p1, pf0, pf1⟩ := H9.out.other.c2 (w.heap.size + 1 + 1) 33 (.int .i64 r.1) (.int .i64 r.2) (by simp)
   obtain ⟨s0, s1, sf0, sf1⟩ := H9.out.other.c2 (w.heap.size + 1) 33 (.int .i64 0) (.int .i64 0) (by simp)
   obtain ⟨t0, tf0⟩ := H9.out.other.c1 w.heap.size 80 (.pointer (some ⟨K.1, 0, none⟩)) (by simp)
   obtain ⟨n0, n1, n2, n3, -, -, -, -⟩ := H9.out.other.c4 g8 59 (.bool n.leaf) (.int .i64 n.ver) (.slice ka n.keys.length kc) (.slice ra n.refs.length rc) (by simp)
   have hk := HL.out.2.2.1
   rw [HK.out] at hk
   have hkl := (List.getElem?_eq_some_iff.1 hk).1
   have hki : (k : Int) < (n.refs.length : Int) := by omega
   obtain ⟨Lf2, hL2, hRf2, -, -⟩ := H9.out.lens
   obtain ⟨ad, ea, hc⟩ := (HN.out.r w9 Lf2 hL2 hRf2).2 (by omega)
   cases ea
   obtain ⟨g1, g2⟩ := rcel_get _ _ _ hk
   have z0 := hc _ _ g1
   have z1' := hc _ _ g2
   rw [← Addr.add_add] at z1'
   have z1 : w9.cell? { block := (ad.add (k * 2)).block, off := (ad.add (k * 2)).off + 1 } = some (.int .i64 r'.2) := z1'
   clear hc g1 g2 hL2 hRf2 z1' hk
   go_wp2_with fail
   go_roundg l2.length
   case measure => simp
   case rel => exact ⟨r', l2, p ++ [(r, k)], X', HL.out.2.2.2, by rw [List.append_assoc, ← HP.out, hn, HK.out]; rfl, rfl, HJ2, ⟨((H9.out.putB1 0 (.int .i64 r'.1) rfl).putB1 1 (.int .i64 r'.2) rfl).tail⟩⟩
end
section
variable {w0 w w1 : World} {L L' R : List Ob} {K : Nat × Nat × Nat} {t : Tm} {on : Value}
def JW (gc : Nat) (p : List (Rf × Nat)) (X : List Ob) : Prop := ∃ v A, X = cb gc 31 #[v] :: A ∧ Gr 33 2 v p.length ((p.map (·.1)).flatMap rcel) A
def wayL (l : List (Rf × Nat)) (q : Rf) : List Rf := l.map (·.1) ++ [q]
def WayP (w0 : World) (K : Nat × Nat × Nat) (t : Tm) (R L : List Ob) (l : List Rf) (e : Ending) (w' : World) : Prop :=
 ∃ ad c A, e = .returned (.slice ad l.length c) ∧ Gr 33 2 (.slice ad l.length c) l.length (l.flatMap rcel) A ∧ Mt w0 w' K t .nilFunc R (A ++ L)
theorem wayCB {gc m : Nat} (hm : m ≤ 1000000) (W : World) (B X : List Ob) (p : List (Rf × Nat)) (r : Rf) (n : Nd.Nd) (ka : Option Addr) (kc : Nat) (ra : Option Addr) (rc k : Nat) {fv : Value} (hM : Mt w0 W K t fv R (B ++ (X ++ L))) (hJ : JW gc p X) (hp : p.length < m) :
  Calls Try.prog 146 #[.agg #[.int .i64 r.1, .int .i64 r.2], .agg #[.bool n.leaf, .int .i64 n.ver, .slice ka n.keys.length kc, .slice ra n.refs.length rc], .int .i64 (k : Int), .pointer (some ⟨gc, 0, none⟩)] W fun e w' => e = .returned (.tuple #[]) ∧ ∃ X', JW gc (p ++ [(r, k)]) X' ∧ Mt w0 w' K t fv R (B ++ (X' ++ L)) := by
 obtain ⟨v, A, rfl, hG⟩ := hJ
 obtain ⟨Q, hq, back⟩ := hM.lensX (X := cb gc 31 #[v] :: A)
 refine (way1.calls (L := Q) hq hG r n.leaf n.ver ka n.keys.length kc ra n.refs.length rc k (by omega)).mono ?_
 rintro e w' ⟨rfl, v', A', hG', hv'⟩
 exact ⟨rfl, cb gc 31 #[v'] :: A', ⟨v', A', rfl, by simpa using hG'⟩, back w' (cb gc 31 #[v'] :: A') hv'⟩
theorem way.calls (h : Mt w0 w K t on R L) (key : ByteArray) {l : List (Rf × Nat)} {q : Rf} (hd : Dn t key t.root l q) (hm : l.length < 1000000) :
  Calls Try.prog 110 #[.pointer (some ⟨K.1, 0, none⟩), .string key] w (WayP w0 K t R L (wayL l q)) := by
 have hu33 := Try.underlying33
 have hu31 := Try.underlying31
 have hmf : ∀ (fn : Fn) (first cap : Array Value) (w : World), (Instr.makeFunc fn first cap).run Try.prog w = .ok (.func fn first cap) w := fun _ _ _ _ => rfl
 have HM := As (show Mt w0 _ K t on R ([cb w.heap.size 31 #[.slice none 0 0]] ++ L) from h.alloc (.cells #[.slice none 0 0] 31))
 have HD := As (And.intro hd hm)
 have HB := As (show (l.length + 1) * 16 ≤ 140737488355328 by omega)
 clear h hd hm
 go_enter Try.func110, Try.ntmps110
 go_upto_region 3 with (go_at_call 126; go_loud (refine (downC.calls (w0 := w0) (L := L) (X0 := [cb w.heap.size 31 #[.slice none 0 0]]) (m := 1000000) (gc := w.heap.size) (F := 146) (fnc := Try.f146) (J := JW w.heap.size) (by kernel_rfl) (by kernel_rfl) (by kernel_rfl) HM.out ⟨_, [], rfl, Gr.nil 33 2⟩ key HD.out.1 (Nat.le_of_lt HD.out.2) (fun W B X p r n ka kc ra rc k h1 h2 h3 _ _ _ => wayCB (Nat.le_refl _) W B X p r n ka kc ra rc k h1 h2 h3)).mono ?_); rintro e2 w2 ⟨rfl, X, ⟨v, A, rfl, hG⟩, hm2⟩; have H2 := As hm2; have HG := As hG; clear hm2 hG)
 obtain ⟨ad, c, rfl, -⟩ := HG.out.form
 obtain ⟨W3, hW, hM⟩ : ∃ W, W = w2.alloc (.cells #[.int .i64 q.1, .int .i64 q.2] 33) ∧ Mt w0 W K t .nilFunc R (cb w2.heap.size 33 #[.int .i64 q.1, .int .i64 q.2] :: cb w.heap.size 31 #[.slice ad l.length c] :: (A ++ L)) := ⟨_, rfl, H2.out.alloc _⟩
 rw [← hW]
 have H3 := As hM
 clear hW hM
 generalize w2.heap.size = g6 at H3 ⊢
 obtain ⟨y0, y1, -, -⟩ := H3.out.other.c2 g6 33 (.int .i64 q.1) (.int .i64 q.2) (by simp)
 obtain ⟨z0, -⟩ := H3.out.other.c1 w.heap.size 31 (.slice ad l.length c) (by simp)
 have h4 := H3.out.alloc (.cells #[.int .i64 q.1, .int .i64 q.2] 33)
 have HR := As ((Rdy.of_rw (w0 := w0) (size := 2) (n := 1) (e := 33) (c := 1) (xs := rcel q) (ad := some ⟨W3.heap.size, 0, none⟩) (L := cb W3.heap.size 33 #[.int .i64 q.1, .int .i64 q.2] :: cb g6 33 #[.int .i64 q.1, .int .i64 q.2] :: cb w.heap.size 31 #[.slice ad l.length c] :: (A ++ L)) ⟨rfl, Nat.le_refl _, fun _ => ⟨W3.heap.size, 0, #[.int .i64 q.1, .int .i64 q.2], rfl, List.mem_cons_self, fun i _ => by rw [Nat.zero_add]; simp [rcel]⟩⟩).now h4.other)
 obtain ⟨Q, hq, back⟩ := Mt.lensX (B := [cb W3.heap.size 33 #[.int .i64 q.1, .int .i64 q.2], cb g6 33 #[.int .i64 q.1, .int .i64 q.2], cb w.heap.size 31 #[.slice ad l.length c]]) (X := A) (L := L) h4
 have HQ := As (And.intro hq back)
 clear h4 hq back
 go_wp2_with ((with_reducible refine gate_builtin (b := .append) (xs := #[.tmp 11, .tmp 13]) rfl ?_); at_builtin; go_loud (refine append_rows (w0 := w0) (A := A) (L := Q) rfl (.tmp 11) (.tmp 13) 31 33 (.agg #[.int .i64 0, .int .i64 0]) 2 16 rfl Try.underlying31 infoR rfl (by decide) (by decide) (.slice ad l.length c) l.length ((l.map (·.1)).flatMap rcel) rfl (some ⟨W3.heap.size, 0, none⟩) 1 1 (rcel q) rfl (by intro u hu; simp [rcel] at hu; rcases hu with rfl | rfl <;> rfl) HG.out HQ.out.1 HR.out HB.out ?_); intro v1 w5 A1 hG1 hv5; obtain ⟨ad1, c1, rfl, -⟩ := hG1.form; have HG1 := As hG1; have H5 := As (HQ.out.2 w5 A1 hv5); clear hG1 hv5)
 have hl : (wayL l q).length = l.length + 1 := by simp [wayL]
 have hx : (wayL l q).flatMap rcel = (l.map (·.1)).flatMap rcel ++ rcel q := by simp [wayL]
 exact bodyPost_ret (v := .slice ad1 (l.length + 1) c1) (by simp [results, Try.results110, go_sem]) rfl ⟨ad1, c1, A1, by rw [hl], by rw [hl, hx]; exact HG1.out, H5.out.tail.tail.tail⟩
end
section
variable {w0 w w1 : World} {L L' R : List Ob} {K : Nat × Nat × Nat} {t : Tm} {on : Value}
def idxF (r : Rf) : List Rf → Nat
 | [] => 0
 | x :: l => if x = r then 0 else idxF r l + 1
def idx (r : Rf) (l : List Rf) : Int := if idxF r l < l.length then (idxF r l : Int) else -1
theorem idxF_hit {r : Rf} : ∀ {l : List Rf} {k : Nat}, l[k]? = some r → (∀ (j : Nat) (x : Rf), j < k → l[j]? = some x → x ≠ r) → idxF r l = k
 | [], k, h, _ => by simp at h
 | a :: l, 0, h, _ => by simp at h; subst h; simp [idxF]
 | a :: l, k + 1, h, hn => by
  have h1 := hn 0 a (by omega) rfl
  have h2 := idxF_hit (l := l) (k := k) (by simpa using h) (fun j x hj hx => hn (j + 1) x (by omega) (by simpa using hx))
  rw [idxF, if_neg h1, h2]
theorem idxF_none {r : Rf} : ∀ {l : List Rf}, (∀ (j : Nat) (x : Rf), l[j]? = some x → x ≠ r) → idxF r l = l.length
 | [], _ => rfl
 | a :: l, hn => by
  have h1 := hn 0 a rfl
  have h2 := idxF_none (l := l) (fun j x hx => hn (j + 1) x (by simpa using hx))
  rw [idxF, if_neg h1, h2, List.length_cons]
theorem index.calls (hv : Hv w0 w L) (l : List Rf) (hl : l.length ≤ 1000000) {ad : Option Addr} {c : Nat} (h1 : Rdy 2 w0 L ad l.length (l.flatMap rcel)) (r : Rf) :
  Calls Try.prog 113 #[.slice ad l.length c, .agg #[.int .i64 r.1, .int .i64 r.2]] w fun e w' => e = .returned (.int .i64 (idx r l)) ∧ Hv w0 w' L := by
 have hu33 := Try.underlying33
 have hu31 := Try.underlying31
 have HV := As (show Hv w0 _ (cb w.heap.size 33 #[.int .i64 r.1, .int .i64 r.2] :: L) from hv.alloc (.cells #[.int .i64 r.1, .int .i64 r.2] 33))
 have H1 := As h1
 clear hv h1
 go_enter Try.func113, Try.ntmps113
 go_wp2_with fail
 go_loopg [8] l.length (fun kq v8 wr => ∃ (k : Nat), v8 = .int .i64 (k : Int) ∧ kq = l.length - k ∧ k ≤ l.length ∧ Aside0 (∀ (j : Nat) (x : Rf), j < k → l[j]? = some x → x ≠ r) ∧ Aside0 (Hv w0 wr (cb w.heap.size 33 #[.int .i64 r.1, .int .i64 r.2] :: L)))
 case atStart => exact ⟨0, rfl, rfl, Nat.zero_le _, ⟨fun j x h => by omega⟩, HV⟩
 case round =>
  obtain ⟨k, rfl, rfl, hk, HP, HW⟩ := hrel
  clear HV
  obtain ⟨y0, y1, -, -⟩ := HW.out.c2 w.heap.size 33 (.int .i64 r.1) (.int .i64 r.2) List.mem_cons_self
  have hk7 : k ≤ 1000000 := by omega
  by_cases hltn : k < l.length
  ·have hlt' : (k : Int) < (l.length : Int) := by omega
   have ew : IntKind.i64.wrap ((k : Int) + 1) = ((k + 1 : Nat) : Int) := by rw [IntKind.wrap_i64]; omega
   have ew' : wrap64 ((k : Int) + 1) = ((k + 1 : Nat) : Int) := by unfold wrap64; omega
   obtain ⟨g1, ea, hc1⟩ := (H1.out _ _ HW.out (fun x hx => List.mem_cons_of_mem _ hx)).2 (by omega)
   cases ea
   obtain ⟨q, hq⟩ : ∃ q, l[k]? = some q := ⟨_, List.getElem?_eq_getElem hltn⟩
   obtain ⟨r0, r1⟩ := rcel_get l k q hq
   have z0 := hc1 (k * 2) _ r0
   have z1' := hc1 (k * 2 + 1) _ r1
   rw [← Addr.add_add] at z1'
   have z1 : wr.cell? { block := (g1.add (k * 2)).block, off := (g1.add (k * 2)).off + 1 } = some (.int .i64 q.2) := z1'
   have HQ := As hq
   clear r0 r1 z1' hc1 hq
   by_cases he : q = r
   ·have heq : ∀ w : World, (binOp .eql 33 (.agg #[.int .i64 r.1, .int .i64 r.2]) (.agg #[.int .i64 q.1, .int .i64 q.2])).run Try.prog w = .ok (.bool true) w := fun w => by rw [eql33, he]; simp
    have HF := As (show idx r l = (k : Int) by
     have := idxF_hit (l := l) (r := r) (k := k) (by rw [HQ.out, he]) (fun j x hj hx => HP.out j x hj hx)
     unfold idx
     rw [this, if_pos hltn])
    clear he
    go_wp2_with fail
    go_quiet (fail)
    go_wp2_with fail
    exact bodyPost_ret (v := .int .i64 (k : Int)) (by simp [results, Try.results113, go_sem]) rfl ⟨by rw [HF.out], (HW.out.call (by repeat (first | exact Below.refl _ _ | apply below_drew1 | apply pw_below_drewN))).tail⟩
   ·have heq : ∀ w : World, (binOp .eql 33 (.agg #[.int .i64 r.1, .int .i64 r.2]) (.agg #[.int .i64 q.1, .int .i64 q.2])).run Try.prog w = .ok (.bool false) w := fun w => by
     rw [eql33]
     have : (r.1 == q.1 && (r.2 == q.2)) = false := by
      rw [Bool.eq_false_iff]
      intro h
      simp only [Bool.and_eq_true, beq_iff_eq] at h
      exact he (Prod.ext h.1.symm h.2.symm)
     rw [this]
    have HE := As he
    clear he
    go_wp2_with fail
    go_quiet (fail)
    go_wp2_with fail
    go_roundg (l.length - (k + 1))
    case measure => omega
    case rel => exact ⟨k + 1, by go_num, rfl, hltn, ⟨fun j x hj hx => by
     by_cases e : j = k
     ·subst e
      rw [HQ.out] at hx
      cases hx
      exact HE.out
     ·exact HP.out j x (by omega) hx⟩, ⟨HW.out.call (by repeat (first | exact Below.refl _ _ | apply below_drew1 | apply pw_below_drewN))⟩⟩
  ·have hge : ¬ (k : Int) < (l.length : Int) := by omega
   have HF := As (show idx r l = -1 by
    have := idxF_none (l := l) (r := r) (fun j x hx => HP.out j x (by have := (List.getElem?_eq_some_iff.1 hx).1; omega) hx)
    unfold idx
    rw [this, if_neg (by omega)])
   go_wp2_with fail
   exact bodyPost_ret (v := .int .i64 (-1)) (by simp [results, Try.results113, go_sem]) rfl ⟨by rw [HF.out], HW.out.tail⟩
end
section
variable {w0 w w1 : World} {L L' R : List Ob} {K : Nat × Nat × Nat} {t : Tm} {on : Value}
def Tm.fresh (t : Tm) (r : Rf) (x : Int) : Bool := t.has r && ((t.at r).ver == x)
theorem fresh.calls (h : Mt w0 w K t on R L) (r : Rf) (x : Int) : Calls Try.prog 61 #[.pointer (some ⟨K.1, 0, none⟩), .agg #[.int .i64 r.1, .int .i64 r.2, .int .i64 x]] w fun e w' => e = .returned (.bool (t.fresh r x)) ∧ Mt w0 w' K t on R L := by
 have hu59 := Try.underlying59
 have hu33 := Try.underlying33
 have hu85 := Try.underlying85
 have hu160 := Try.underlying160
 have HM := As (show Mt w0 _ K t on R (cb w.heap.size 85 #[.int .i64 r.1, .int .i64 r.2, .int .i64 x] :: L) from h.alloc (.cells #[.int .i64 r.1, .int .i64 r.2, .int .i64 x] 85))
 obtain ⟨n, hn⟩ : ∃ n, t.at r = n := ⟨_, rfl⟩
 have HE := As hn
 clear h
 have SP := As (show ∀ (w' : World) (L' : List Ob), Mt w0 w' K t on R L' → cb w.heap.size 85 #[.int .i64 r.1, .int .i64 r.2, .int .i64 x] ∈ L' → (w'.cell? ⟨K.1, 0, none⟩ = some (.pointer (some ⟨K.2.1, 0, none⟩)) ∧ w'.cell? ⟨w.heap.size, 0, none⟩ = some (.int .i64 r.1) ∧ w'.cell? ⟨w.heap.size, 1, none⟩ = some (.int .i64 r.2)) from fun w' L' h m => by
  obtain ⟨c0, -, -, -, -, -, -⟩ := h.cells
  obtain ⟨p0, p1, -, -, -, -⟩ := h.other.c3 _ _ _ _ _ m
  exact ⟨c0, p0, p1⟩)
 go_enter Try.func61, Try.ntmps61
 go_upto_region 3 with (fail)
 obtain ⟨W0, hW, hM⟩ : ∃ W, W = _ ∧ Mt w0 W K t on R (cb w.heap.size 85 #[.int .i64 r.1, .int .i64 r.2, .int .i64 x] :: L) := ⟨_, rfl, HM.out⟩
 rw [← hW]
 have HD := As hM.drew
 clear hW hM HM
 refine start_ (n := 13) (S := fun w' => w'.cell? ⟨K.1, 0, none⟩ = some (.pointer (some ⟨K.2.1, 0, none⟩)) ∧ w'.cell? ⟨w.heap.size, 0, none⟩ = some (.int .i64 r.1) ∧ w'.cell? ⟨w.heap.size, 1, none⟩ = some (.int .i64 r.2)) (ds := [11]) #[false, false, false, false, false, false, false, false, false, false, false, false, false] (by kernel_rfl) rfl rfl (SP.out _ _ HD.out (by simp)) (fun hHeld => ?_)
 generalize W0.drew = wr0 at HD hHeld ⊢
 refine pu_ 0 (some 10) ?_
 refine pu_ 1 (some 11) ?_
 refine pu_ 2 (some 12) ?_
 refine pu_ 4 (some 14) ?_
 refine ta_ 3 (some 13) hHeld ?_ (hy := Or.inl ⟨by rfl, by rintro w' ⟨s0, s1, s2⟩; go_simp; with_reducible rfl⟩)
 refine ta_ 5 (some 15) hHeld ?_ (hy := Or.inl ⟨by rfl, by rintro w' ⟨s0, s1, s2⟩; go_simp; with_reducible rfl⟩)
 refine two_ (i := 6) (j := 10) (Ni := some 16) (Nj := some 5) #[true, true, true, true, true, true, true, false, false, false, false, false, false] #[true, true, true, true, true, true, false, false, false, false, true, false, false] rfl rfl rfl rfl (by kernel_rfl) (by decide) (by decide) (fun K_ hK => ?_) (fun K_ hK => ?_)
 ·refine gs_ Try.func109 #[.pointer (some ⟨K.2.1, 0, none⟩), .agg #[.int .i64 r.1, .int .i64 r.2]] ?_
  refine (HD.out.get r).mono ?_
  rintro e9 wr1 ⟨v, rfl, hnv, hh⟩
  refine ⟨_, rfl, ?_⟩
  rw [hn] at hnv
  obtain ⟨ka, kc, ra, rc, ev, hr⟩ := hnv
  have ev' : v = .agg #[.bool n.leaf, .int .i64 n.ver, .slice ka n.keys.length kc, .slice ra n.refs.length rc] := ev
  subst ev'
  clear ev
  have HN := As hr
  have HR1 := As (show Mt w0 wr1 K t on R (cb w.heap.size 85 #[.int .i64 r.1, .int .i64 r.2, .int .i64 x] :: L) from hh)
  clear hh hr
  refine hK.out _ _ (SP.out _ _ HR1.out (by simp)) (fun hHeld => ?_)
  clear hK K_
  refine nm_ ?_
  refine pu_ 7 (some 9) ?_
  refine pu_ 8 (some 17) ?_
  refine pu_ 9 (some 18) ?_
  refine on_ 10 (some 5) fun K_ hK => ?_
  refine value_ (v := .pointer (some ⟨wr1.heap.size, 0, none⟩)) (w1 := wr1.alloc (.cells #[.bool false, .int .i64 0, .slice none 0 0, .slice none 0 0] 59)) (by rfl) rfl ?_ ?_
  ·go_simp
  obtain ⟨wr2, hW, hvv⟩ : ∃ wr2, wr2 = wr1.alloc (.cells #[.bool false, .int .i64 0, .slice none 0 0, .slice none 0 0] 59) ∧ Mt w0 wr2 K t on R (cb wr1.heap.size 59 #[.bool false, .int .i64 0, .slice none 0 0, .slice none 0 0] :: cb w.heap.size 85 #[.int .i64 r.1, .int .i64 r.2, .int .i64 x] :: L) := ⟨_, rfl, HR1.out.alloc _⟩
  rw [← hW]
  have HR2 := As hvv
  clear hW hvv
  refine hK.out _ _ (SP.out _ _ HR2.out (by simp)) (fun hHeld => ?_)
  clear hK K_
  refine nm_ ?_
  refine la_ 11 none fun K_ hK => ?_
  obtain ⟨b0, b1, b2, b3, d0, d1, d2, d3⟩ := HR2.out.other.c4 wr1.heap.size 59 (.bool false) (.int .i64 0) (.slice none 0 0) (.slice none 0 0) List.mem_cons_self
  refine sk_ (hK.out _ _ ?_)
  clear hK K_ b0 b1 b2 b3 d0 d1 d2 d3
  obtain ⟨wr3, hW, hvv⟩ : ∃ wr3, wr3 = _ ∧ Mt w0 wr3 K t on R (cb wr1.heap.size 59 #[.bool n.leaf, .int .i64 n.ver, .slice ka n.keys.length kc, .slice ra n.refs.length rc] :: cb w.heap.size 85 #[.int .i64 r.1, .int .i64 r.2, .int .i64 x] :: L) := ⟨_, rfl, (Mt.putB0 (Mt.putB0 (Mt.putB0 (Mt.putB0 HR2.out 0 (.bool n.leaf) rfl) 1 (.int .i64 n.ver) rfl) 2 (.slice ka n.keys.length kc) rfl) 3 (.slice ra n.refs.length rc) rfl)⟩
  rw [← hW]
  have HR3 := As hvv
  clear hW hvv
  refine pu_ 12 (some 6) ?_
  refine done_ (by kernel_rfl) ?_
  obtain ⟨b0, b1, b2, b3, -, -, -, -⟩ := HR3.out.other.c4 wr1.heap.size 59 (.bool n.leaf) (.int .i64 n.ver) (.slice ka n.keys.length kc) (.slice ra n.refs.length rc) List.mem_cons_self
  obtain ⟨y0, y1, y2, -, -, -⟩ := HR3.out.other.c3 w.heap.size 85 (.int .i64 r.1) (.int .i64 r.2) (.int .i64 x) (by simp)
  cases hb : t.has r
  ·have HF := As (show t.fresh r x = false by unfold Tm.fresh; rw [hb]; rfl)
   clear hb
   go_wp2_with fail
   exact bodyPost_ret (v := .bool false) (by simp [results, Try.results61, go_sem]) rfl ⟨by rw [HF.out], HR3.out.tail.tail⟩
  ·have HF := As (show t.fresh r x = (n.ver == x) by unfold Tm.fresh; rw [hb, HE.out]; rfl)
   clear hb
   go_wp2_with fail
   exact bodyPost_ret (v := .bool (n.ver == x)) (by simp [results, Try.results61, go_sem]) rfl ⟨by rw [HF.out], HR3.out.tail.tail⟩
 ·refine value_ (v := .pointer (some ⟨wr0.heap.size, 0, none⟩)) (w1 := wr0.alloc (.cells #[.bool false, .int .i64 0, .slice none 0 0, .slice none 0 0] 59)) (by rfl) rfl ?_ ?_
  ·go_simp
  obtain ⟨wr1, hW, hvv⟩ : ∃ wr1, wr1 = wr0.alloc (.cells #[.bool false, .int .i64 0, .slice none 0 0, .slice none 0 0] 59) ∧ Mt w0 wr1 K t on R (cb wr0.heap.size 59 #[.bool false, .int .i64 0, .slice none 0 0, .slice none 0 0] :: cb w.heap.size 85 #[.int .i64 r.1, .int .i64 r.2, .int .i64 x] :: L) := ⟨_, rfl, HD.out.alloc _⟩
  rw [← hW]
  have HR1 := As hvv
  clear hW hvv
  refine hK.out _ _ (SP.out _ _ HR1.out (by simp)) (fun hHeld => ?_)
  clear hK K_
  refine nm_ ?_
  refine on_ 6 (some 16) fun K_ hK => ?_
  refine gs_ Try.func109 #[.pointer (some ⟨K.2.1, 0, none⟩), .agg #[.int .i64 r.1, .int .i64 r.2]] ?_
  refine (HR1.out.get r).mono ?_
  rintro e9 wr2 ⟨v, rfl, hnv, hh⟩
  refine ⟨_, rfl, ?_⟩
  rw [hn] at hnv
  obtain ⟨ka, kc, ra, rc, ev, hr⟩ := hnv
  have ev' : v = .agg #[.bool n.leaf, .int .i64 n.ver, .slice ka n.keys.length kc, .slice ra n.refs.length rc] := ev
  subst ev'
  clear ev
  have HN := As hr
  have HR2 := As (show Mt w0 wr2 K t on R (cb wr0.heap.size 59 #[.bool false, .int .i64 0, .slice none 0 0, .slice none 0 0] :: cb w.heap.size 85 #[.int .i64 r.1, .int .i64 r.2, .int .i64 x] :: L) from hh)
  clear hh hr
  refine hK.out _ _ (SP.out _ _ HR2.out (by simp)) (fun hHeld => ?_)
  clear hK K_
  refine nm_ ?_
  refine pu_ 7 (some 9) ?_
  refine pu_ 8 (some 17) ?_
  refine pu_ 9 (some 18) ?_
  refine la_ 11 none fun K_ hK => ?_
  obtain ⟨b0, b1, b2, b3, d0, d1, d2, d3⟩ := HR2.out.other.c4 wr0.heap.size 59 (.bool false) (.int .i64 0) (.slice none 0 0) (.slice none 0 0) List.mem_cons_self
  refine sk_ (hK.out _ _ ?_)
  clear hK K_ b0 b1 b2 b3 d0 d1 d2 d3
  obtain ⟨wr3, hW, hvv⟩ : ∃ wr3, wr3 = _ ∧ Mt w0 wr3 K t on R (cb wr0.heap.size 59 #[.bool n.leaf, .int .i64 n.ver, .slice ka n.keys.length kc, .slice ra n.refs.length rc] :: cb w.heap.size 85 #[.int .i64 r.1, .int .i64 r.2, .int .i64 x] :: L) := ⟨_, rfl, (Mt.putB0 (Mt.putB0 (Mt.putB0 (Mt.putB0 HR2.out 0 (.bool n.leaf) rfl) 1 (.int .i64 n.ver) rfl) 2 (.slice ka n.keys.length kc) rfl) 3 (.slice ra n.refs.length rc) rfl)⟩
  rw [← hW]
  have HR3 := As hvv
  clear hW hvv
  refine pu_ 12 (some 6) ?_
  refine done_ (by kernel_rfl) ?_
  obtain ⟨b0, b1, b2, b3, -, -, -, -⟩ := HR3.out.other.c4 wr0.heap.size 59 (.bool n.leaf) (.int .i64 n.ver) (.slice ka n.keys.length kc) (.slice ra n.refs.length rc) List.mem_cons_self
  obtain ⟨y0, y1, y2, -, -, -⟩ := HR3.out.other.c3 w.heap.size 85 (.int .i64 r.1) (.int .i64 r.2) (.int .i64 x) (by simp)
  cases hb : t.has r
  ·have HF := As (show t.fresh r x = false by unfold Tm.fresh; rw [hb]; rfl)
   clear hb
   go_wp2_with fail
   exact bodyPost_ret (v := .bool false) (by simp [results, Try.results61, go_sem]) rfl ⟨by rw [HF.out], HR3.out.tail.tail⟩
  ·have HF := As (show t.fresh r x = (n.ver == x) by unfold Tm.fresh; rw [hb, HE.out]; rfl)
   clear hb
   go_wp2_with fail
   exact bodyPost_ret (v := .bool (n.ver == x)) (by simp [results, Try.results61, go_sem]) rfl ⟨by rw [HF.out], HR3.out.tail.tail⟩
end
section
variable {w0 w w1 : World} {L L' R : List Ob} {K : Nat × Nat × Nat} {t : Tm} {on : Value}
theorem find_lt {n : Nd.Nd} {key : ByteArray} {i : Nat} (h : n.find key = (i, true)) : i < n.refs.length := by
 unfold Nd.Nd.find at h
 split at h
 ·rename_i hb
  simp only [Bool.and_eq_true, beq_iff_eq] at hb
  simp only [Prod.mk.injEq] at h
  have := fnd_lt h.2
  omega
 ·simp at h
def Tm.find (t : Tm) (key : ByteArray) (q : Rf) : Rf × Bool :=
 if ((t.at q).find key).2 then ((t.at q).refs.getD ((t.at q).find key).1 (0, 0), true) else ((0, 0), false)
def FindP (w0 : World) (K : Nat × Nat × Nat) (t : Tm) (R L : List Ob) (a : Rf × Bool) (q : Rf) (e : Ending) (w' : World) : Prop :=
 e = .returned (.tuple #[.agg #[.int .i64 a.1.1, .int .i64 a.1.2], .bool a.2, .agg #[.int .i64 q.1, .int .i64 q.2, .int .i64 (t.at q).ver]]) ∧ Mt w0 w' K t .nilFunc R L
theorem find.calls (h : Mt w0 w K t on R L) (key : ByteArray) {l : List (Rf × Nat)} {q : Rf} (hd : Dn t key t.root l q) (ho : Nd.Ok (t.at q)) : Calls Try.prog 71 #[.pointer (some ⟨K.1, 0, none⟩), .string key] w (FindP w0 K t R L (t.find key q) q) := by
 have hu59 := Try.underlying59
 have hu33 := Try.underlying33
 have hu31 := Try.underlying31
 have hu85 := Try.underlying85
 have hu80 := Try.underlying80
 have HM := As (show Mt w0 _ K t on R (cb (w.heap.size + 1) 85 #[.int .i64 0, .int .i64 0, .int .i64 0] :: cb w.heap.size 33 #[.int .i64 0, .int .i64 0] :: L) by
  have := (h.alloc (.cells #[.int .i64 0, .int .i64 0] 33)).alloc (.cells #[.int .i64 0, .int .i64 0, .int .i64 0] 85)
  simpa [cb] using this)
 obtain ⟨n, hn⟩ : ∃ n, t.at q = n := ⟨_, rfl⟩
 rw [hn] at ho
 have HE := As hn
 have HD := As hd
 have HO := As ho
 obtain ⟨fi, hfi⟩ : ∃ fi, n.find key = fi := ⟨_, rfl⟩
 obtain ⟨i, b⟩ := fi
 have HFI := As hfi
 clear h hd ho hn hfi
 obtain ⟨s0, s1, sf0, sf1⟩ := HM.out.other.c2 w.heap.size 33 (.int .i64 0) (.int .i64 0) (by simp)
 obtain ⟨v0, v1, v2, vf0, vf1, vf2⟩ := HM.out.other.c3 (w.heap.size + 1) 85 (.int .i64 0) (.int .i64 0) (.int .i64 0) (by simp)
 go_enter Try.func71, Try.ntmps71
 go_upto_region 4 with (go_at_call 126; go_loud (refine (downN.calls HM.out key HD.out).mono ?_); rintro e2 w2 ⟨rfl, hh⟩; have H2 := As hh; clear hh; clear s0 s1 sf0 sf1 v0 v1 v2 vf0 vf1 vf2; obtain ⟨s0, s1, sf0, sf1⟩ := H2.out.other.c2 w.heap.size 33 (.int .i64 0) (.int .i64 0) (by simp); obtain ⟨v0, v1, v2, vf0, vf1, vf2⟩ := H2.out.other.c3 (w.heap.size + 1) 85 (.int .i64 0) (.int .i64 0) (.int .i64 0) (by simp))
 obtain ⟨W3, hW, hM⟩ : ∃ W, W = w2.alloc (.cells #[.int .i64 q.1, .int .i64 q.2] 33) ∧ Mt w0 W K t .nilFunc R (cb w2.heap.size 33 #[.int .i64 q.1, .int .i64 q.2] :: cb (w.heap.size + 1) 85 #[.int .i64 0, .int .i64 0, .int .i64 0] :: cb w.heap.size 33 #[.int .i64 0, .int .i64 0] :: L) := ⟨_, rfl, H2.out.alloc _⟩
 rw [← hW]
 have H3 := As hM
 clear hW hM
 clear s0 s1 sf0 sf1 v0 v1 v2 vf0 vf1 vf2
 generalize w2.heap.size = g7 at H3 ⊢
 obtain ⟨s0, s1, sf0, sf1⟩ := H3.out.other.c2 w.heap.size 33 (.int .i64 0) (.int .i64 0) (by simp)
 obtain ⟨v0, v1, v2, vf0, vf1, vf2⟩ := H3.out.other.c3 (w.heap.size + 1) 85 (.int .i64 0) (.int .i64 0) (.int .i64 0) (by simp)
 obtain ⟨q0, q1, -, -⟩ := H3.out.other.c2 g7 33 (.int .i64 q.1) (.int .i64 q.2) (by simp)
 go_upto_region 5 with (go_at_call 111; go_loud (refine (at.calls H3.out q).mono ?_); rintro e4 w4 ⟨v, rfl, hnv, hh⟩; rw [HE.out] at hnv; obtain ⟨ka, kc, ra, rc, ev, hr⟩ := hnv; have ev' : v = .agg #[.bool n.leaf, .int .i64 n.ver, .slice ka n.keys.length kc, .slice ra n.refs.length rc] := ev; subst ev'; clear ev; have HN := As hr; have H4 := As hh; clear hh hr; clear s0 s1 sf0 sf1 v0 v1 v2 vf0 vf1 vf2; clear q0 q1; obtain ⟨s0, s1, sf0, sf1⟩ := H4.out.other.c2 w.heap.size 33 (.int .i64 0) (.int .i64 0) (by simp); obtain ⟨v0, v1, v2, vf0, vf1, vf2⟩ := H4.out.other.c3 (w.heap.size + 1) 85 (.int .i64 0) (.int .i64 0) (.int .i64 0) (by simp); obtain ⟨q0, q1, -, -⟩ := H4.out.other.c2 g7 33 (.int .i64 q.1) (.int .i64 q.2) (by simp))
 obtain ⟨W5, hW, hM⟩ : ∃ W, W = w4.alloc (.cells #[.bool n.leaf, .int .i64 n.ver, .slice ka n.keys.length kc, .slice ra n.refs.length rc] 59) ∧ Mt w0 W K t .nilFunc R (cb w4.heap.size 59 #[.bool n.leaf, .int .i64 n.ver, .slice ka n.keys.length kc, .slice ra n.refs.length rc] :: cb g7 33 #[.int .i64 q.1, .int .i64 q.2] :: cb (w.heap.size + 1) 85 #[.int .i64 0, .int .i64 0, .int .i64 0] :: cb w.heap.size 33 #[.int .i64 0, .int .i64 0] :: L) := ⟨_, rfl, H4.out.alloc _⟩
 rw [← hW]
 have H5 := As hM
 clear hW hM
 clear s0 s1 sf0 sf1 v0 v1 v2 vf0 vf1 vf2
 clear q0 q1
 generalize w4.heap.size = g8 at H5 ⊢
 obtain ⟨s0, s1, sf0, sf1⟩ := H5.out.other.c2 w.heap.size 33 (.int .i64 0) (.int .i64 0) (by simp)
 obtain ⟨v0, v1, v2, vf0, vf1, vf2⟩ := H5.out.other.c3 (w.heap.size + 1) 85 (.int .i64 0) (.int .i64 0) (.int .i64 0) (by simp)
 obtain ⟨q0, q1, -, -⟩ := H5.out.other.c2 g7 33 (.int .i64 q.1) (.int .i64 q.2) (by simp)
 obtain ⟨n0, n1, n2, n3, -, -, -, -⟩ := H5.out.other.c4 g8 59 (.bool n.leaf) (.int .i64 n.ver) (.slice ka n.keys.length kc) (.slice ra n.refs.length rc) (by simp)
 obtain ⟨Lf, hL, hRf, -, back⟩ := H5.out.lens
 have HLf := As (And.intro hL (And.intro hRf back))
 clear hL hRf back
 go_upto_region 6 with (go_at_call 38; go_loud (refine (Nd.find.calls (w0 := w0) HLf.out.1 (NV.mono ⟨ka, kc, ra, rc, rfl, HN.out⟩ HLf.out.2.1) HO.out key).mono ?_); rw [HFI.out]; rintro e6 w6 ⟨rfl, hh⟩; have H6 := As (show Mt w0 w6 K t .nilFunc R (cb g8 59 #[.bool n.leaf, .int .i64 n.ver, .slice ka n.keys.length kc, .slice ra n.refs.length rc] :: cb g7 33 #[.int .i64 q.1, .int .i64 q.2] :: cb (w.heap.size + 1) 85 #[.int .i64 0, .int .i64 0, .int .i64 0] :: cb w.heap.size 33 #[.int .i64 0, .int .i64 0] :: L) from HLf.out.2.2 w6 [] hh); clear hh; clear s0 s1 sf0 sf1 v0 v1 v2 vf0 vf1 vf2; clear q0 q1; clear n0 n1 n2 n3; obtain ⟨s0, s1, sf0, sf1⟩ := H6.out.other.c2 w.heap.size 33 (.int .i64 0) (.int .i64 0) (by simp); obtain ⟨v0, v1, v2, vf0, vf1, vf2⟩ := H6.out.other.c3 (w.heap.size + 1) 85 (.int .i64 0) (.int .i64 0) (.int .i64 0) (by simp); obtain ⟨q0, q1, -, -⟩ := H6.out.other.c2 g7 33 (.int .i64 q.1) (.int .i64 q.2) (by simp); obtain ⟨n0, n1, n2, n3, -, -, -, -⟩ := H6.out.other.c4 g8 59 (.bool n.leaf) (.int .i64 n.ver) (.slice ka n.keys.length kc) (.slice ra n.refs.length rc) (by simp))
 cases b
 ·have HF := As (show t.find key q = ((0, 0), false) by unfold Tm.find; rw [HE.out, HFI.out]; rfl)
  go_wp2_with (go_at_call 127; go_loud (refine (seen.calls H6.out q).mono ?_); rw [HE.out]; rintro e7 w7 ⟨rfl, hh⟩; have H7 := As hh; clear hh; clear s0 s1 sf0 sf1 v0 v1 v2 vf0 vf1 vf2; clear q0 q1; clear n0 n1 n2 n3; obtain ⟨s0, s1, sf0, sf1⟩ := H7.out.other.c2 w.heap.size 33 (.int .i64 0) (.int .i64 0) (by simp); obtain ⟨v0, v1, v2, vf0, vf1, vf2⟩ := H7.out.other.c3 (w.heap.size + 1) 85 (.int .i64 0) (.int .i64 0) (.int .i64 0) (by simp); obtain ⟨q0, q1, -, -⟩ := H7.out.other.c2 g7 33 (.int .i64 q.1) (.int .i64 q.2) (by simp); obtain ⟨n0, n1, n2, n3, -, -, -, -⟩ := H7.out.other.c4 g8 59 (.bool n.leaf) (.int .i64 n.ver) (.slice ka n.keys.length kc) (.slice ra n.refs.length rc) (by simp))
  obtain ⟨wg, hw, hg⟩ : ∃ wg, wg = _ ∧ Mt w0 wg K t .nilFunc R (cb g8 59 #[.bool n.leaf, .int .i64 n.ver, .slice ka n.keys.length kc, .slice ra n.refs.length rc] :: cb g7 33 #[.int .i64 q.1, .int .i64 q.2] :: cb (w.heap.size + 1) 85 #[.int .i64 q.1, .int .i64 q.2, .int .i64 n.ver] :: cb w.heap.size 33 #[.int .i64 0, .int .i64 0] :: L) := ⟨_, rfl, (Mt.putB2 (Mt.putB2 (Mt.putB2 (Mt.put (X := [_, _, _]) (Mt.put (X := [_, _, _]) H7.out 0 (.int .i64 0) rfl) 1 (.int .i64 0) rfl) 0 (.int .i64 q.1) rfl) 1 (.int .i64 q.2) rfl) 2 (.int .i64 n.ver) rfl)⟩
  rw [← hw]
  obtain ⟨e0, e1, -, -⟩ := hg.other.c2 w.heap.size 33 (.int .i64 0) (.int .i64 0) (by simp)
  obtain ⟨e2, e3, e4, -, -, -⟩ := hg.other.c3 (w.heap.size + 1) 85 (.int .i64 q.1) (.int .i64 q.2) (.int .i64 n.ver) (by simp)
  exact bodyPost_ret (v := .tuple #[.agg #[.int .i64 0, .int .i64 0], .bool false, .agg #[.int .i64 q.1, .int .i64 q.2, .int .i64 n.ver]]) (by simp [results, Try.results71, go_sem, e0, e1, e2, e3, e4, hu33, hu85]) rfl ⟨by rw [HF.out, HE.out], hg.tail.tail.tail.tail⟩
 ·have hil : i < n.refs.length := find_lt HFI.out
  obtain ⟨r, hr⟩ : ∃ r, n.refs[i]? = some r := ⟨_, List.getElem?_eq_getElem hil⟩
  have HF := As (show t.find key q = (r, true) by unfold Tm.find; rw [HE.out, HFI.out]; simp [hr])
  obtain ⟨Lg, hLg, hRg, -, -⟩ := H6.out.lens
  obtain ⟨ad, ea, -⟩ := (HN.out.r _ _ hLg hRg).2 (by omega)
  cases ea
  have hii : (i : Int) < (n.refs.length : Int) := by omega
  have SP := As (show ∀ (w' : World) (L' : List Ob), Mt w0 w' K t .nilFunc R L' → cb g7 33 #[.int .i64 q.1, .int .i64 q.2] ∈ L' → cb g8 59 #[.bool n.leaf, .int .i64 n.ver, .slice ka n.keys.length kc, .slice (some ad) n.refs.length rc] ∈ L' → (w'.cell? ⟨g7, 0, none⟩ = some (.int .i64 q.1) ∧ w'.cell? ⟨g7, 1, none⟩ = some (.int .i64 q.2) ∧ w'.cell? ⟨g8, 0, none⟩ = some (.bool n.leaf) ∧ w'.cell? ⟨g8, 1, none⟩ = some (.int .i64 n.ver) ∧ w'.cell? ⟨g8, 2, none⟩ = some (.slice ka n.keys.length kc) ∧ w'.cell? ⟨g8, 3, none⟩ = some (.slice (some ad) n.refs.length rc) ∧ w'.cell? (ad.add (i * 2)) = some (.int .i64 r.1) ∧ w'.cell? { block := (ad.add (i * 2)).block, off := (ad.add (i * 2)).off + 1 } = some (.int .i64 r.2)) from fun w' L' h m1 m2 => by
   obtain ⟨q0, q1, -, -⟩ := h.other.c2 _ _ _ _ m1
   obtain ⟨n0, n1, n2, n3, -, -, -, -⟩ := h.other.c4 _ _ _ _ _ _ m2
   obtain ⟨Lk, hLk, hRk, -, -⟩ := h.lens
   obtain ⟨a, e1, hc⟩ := (HN.out.r _ _ hLk hRk).2 (by omega)
   cases e1
   obtain ⟨g1, g2⟩ := rcel_get _ _ _ hr
   have z1 := hc _ _ g2
   rw [← Addr.add_add] at z1
   exact ⟨q0, q1, n0, n1, n2, n3, hc _ _ g1, z1⟩)
  clear hLg hRg
  go_upto_region 8 with (fail)
  have HD8 := As H6.out.drew
  clear s0 s1 sf0 sf1 v0 v1 v2 vf0 vf1 vf2
  clear q0 q1
  clear n0 n1 n2 n3
  refine start_ (n := 11) (S := fun w' => w'.cell? ⟨g7, 0, none⟩ = some (.int .i64 q.1) ∧ w'.cell? ⟨g7, 1, none⟩ = some (.int .i64 q.2) ∧ w'.cell? ⟨g8, 0, none⟩ = some (.bool n.leaf) ∧ w'.cell? ⟨g8, 1, none⟩ = some (.int .i64 n.ver) ∧ w'.cell? ⟨g8, 2, none⟩ = some (.slice ka n.keys.length kc) ∧ w'.cell? ⟨g8, 3, none⟩ = some (.slice (some ad) n.refs.length rc) ∧ w'.cell? (ad.add (i * 2)) = some (.int .i64 r.1) ∧ w'.cell? { block := (ad.add (i * 2)).block, off := (ad.add (i * 2)).off + 1 } = some (.int .i64 r.2)) (ds := [8, 10]) #[false, false, false, false, false, false, false, false, false, false, false] (by kernel_rfl) rfl rfl (SP.out _ _ HD8.out (by simp) (by simp)) (fun hHeld => ?_)
  generalize w6.drew = wr0 at HD8 hHeld ⊢
  refine pu_ 0 (some 33) ?_
  refine pu_ 2 (some 35) ?_
  refine pu_ 5 (some 38) ?_
  refine ta_ 1 (some 34) hHeld ?_ (hy := Or.inl ⟨by rfl, by rintro w' ⟨s0, s1, s2, s3, s4, s5, s6, s7⟩; go_simp; with_reducible rfl⟩)
  refine pu_ 3 (some 36) ?_
  refine ta_ 4 (some 37) hHeld ?_ (hy := Or.inl ⟨by rfl, by rintro w' ⟨s0, s1, s2, s3, s4, s5, s6, s7⟩; go_simp; with_reducible rfl⟩)
  refine ta_ 6 (some 39) hHeld ?_ (hy := Or.inl ⟨by rfl, by rintro w' ⟨s0, s1, s2, s3, s4, s5, s6, s7⟩; go_simp; with_reducible rfl⟩)
  refine on_ 7 (some 40) fun K_ hK => ?_
  refine gs_ Try.func127 #[.pointer (some ⟨K.1, 0, none⟩), .agg #[.int .i64 q.1, .int .i64 q.2]] ?_
  refine (seen.calls HD8.out q).mono ?_
  rw [HE.out]
  rintro e9 w9 ⟨rfl, hh⟩
  refine ⟨_, rfl, ?_⟩
  have H9 := As hh
  clear hh
  refine hK.out _ _ (SP.out _ _ H9.out (by simp) (by simp)) (fun hHeld => ?_)
  clear hK K_
  refine nm_ ?_
  refine la_ 8 none fun K_ hK => ?_
  obtain ⟨s0, s1, sf0, sf1⟩ := H9.out.other.c2 w.heap.size 33 (.int .i64 0) (.int .i64 0) (by simp)
  refine sk_ (hK.out _ _ ?_)
  clear hK K_ s0 s1 sf0 sf1
  obtain ⟨wr1, hW, hvv⟩ : ∃ wr1, wr1 = _ ∧ Mt w0 wr1 K t .nilFunc R (cb g8 59 #[.bool n.leaf, .int .i64 n.ver, .slice ka n.keys.length kc, .slice (some ad) n.refs.length rc] :: cb g7 33 #[.int .i64 q.1, .int .i64 q.2] :: cb (w.heap.size + 1) 85 #[.int .i64 0, .int .i64 0, .int .i64 0] :: cb w.heap.size 33 #[.int .i64 r.1, .int .i64 r.2] :: L) := ⟨_, rfl, (Mt.put (X := [_, _, _]) (Mt.put (X := [_, _, _]) H9.out 0 (.int .i64 r.1) rfl) 1 (.int .i64 r.2) rfl)⟩
  rw [← hW]
  have HR1 := As hvv
  clear hW hvv
  refine pu_ 9 (some 5) ?_
  refine la_ 10 none fun K_ hK => ?_
  obtain ⟨v0, v1, v2, vf0, vf1, vf2⟩ := HR1.out.other.c3 (w.heap.size + 1) 85 (.int .i64 0) (.int .i64 0) (.int .i64 0) (by simp)
  refine sk_ (hK.out _ _ ?_)
  clear hK K_ v0 v1 v2 vf0 vf1 vf2
  obtain ⟨wr2, hW, hvv⟩ : ∃ wr2, wr2 = _ ∧ Mt w0 wr2 K t .nilFunc R (cb g8 59 #[.bool n.leaf, .int .i64 n.ver, .slice ka n.keys.length kc, .slice (some ad) n.refs.length rc] :: cb g7 33 #[.int .i64 q.1, .int .i64 q.2] :: cb (w.heap.size + 1) 85 #[.int .i64 q.1, .int .i64 q.2, .int .i64 n.ver] :: cb w.heap.size 33 #[.int .i64 r.1, .int .i64 r.2] :: L) := ⟨_, rfl, (Mt.putB2 (Mt.putB2 (Mt.putB2 HR1.out 0 (.int .i64 q.1) rfl) 1 (.int .i64 q.2) rfl) 2 (.int .i64 n.ver) rfl)⟩
  rw [← hW]
  have HR2 := As hvv
  clear hW hvv
  refine done_ (by kernel_rfl) ?_
  obtain ⟨e0, e1, -, -⟩ := HR2.out.other.c2 w.heap.size 33 (.int .i64 r.1) (.int .i64 r.2) (by simp)
  obtain ⟨e2, e3, e4, -, -, -⟩ := HR2.out.other.c3 (w.heap.size + 1) 85 (.int .i64 q.1) (.int .i64 q.2) (.int .i64 n.ver) (by simp)
  go_wp2_with fail
  exact bodyPost_ret (v := .tuple #[.agg #[.int .i64 r.1, .int .i64 r.2], .bool true, .agg #[.int .i64 q.1, .int .i64 q.2, .int .i64 n.ver]]) (by simp [results, Try.results71, go_sem, e0, e1, e2, e3, e4, hu33, hu85]) rfl ⟨by rw [HF.out, HE.out], HR2.out.tail.tail.tail.tail⟩
end
section
variable {w0 w w1 : World} {L L' R : List Ob} {K : Nat × Nat × Nat} {t : Tm} {on : Value}
theorem Mt.lensG (h : Mt w0 w K t on R L) : ∃ gv G Q, Gr 33 2 gv t.gone.length (t.gone.flatMap rcel) G ∧ Hv w0 w (G ++ (tb K t gv on :: Q)) ∧ (∀ p ∈ L, p ∈ Q) ∧ ∀ w' gv' G' gone', Gr 33 2 gv' gone'.length (gone'.flatMap rcel) G' → Hv w0 w' (G' ++ (tb K t gv' on :: Q)) → Mt w0 w' K { t with gone := gone' } on R L := by
 obtain ⟨s, gv, G, e, ⟨bv, B, h1, h1', h1''⟩, h2, h3⟩ := h
 have key : ∀ (a' : Ob) (G' : List Ob), (AL K.2.1 K.2.2 bv B s ++ (a' :: (G' ++ (R ++ L)))).Perm (G' ++ (a' :: (AL K.2.1 K.2.2 bv B s ++ (R ++ L)))) := fun a' G' => by
  refine List.perm_middle.trans (List.Perm.trans (List.Perm.cons a' ?_) List.perm_middle.symm)
  have := List.Perm.append_right (R ++ L) (List.perm_append_comm (l₁ := AL K.2.1 K.2.2 bv B s) (l₂ := G'))
  simpa [List.append_assoc] using this
 exact ⟨gv, G, _, h2, h1.perm (key _ G).symm, fun p hp => by simp [hp], fun w' gv' G' gone' hG h' => ⟨s, gv', G', e, ⟨bv, B, h'.perm (key _ G'), h1', h1''⟩, hG, h3⟩⟩
def up1 (n : Nd.Nd) : Nd.Nd := { n with ver := wrap64 (n.ver + 1) }
def Tm.leave (t : Tm) (r : Rf) : Tm := { t.set r (up1 (t.at r)) with gone := t.gone ++ [r] }
theorem set_gone (t : Tm) (r : Rf) (n : Nd.Nd) : (t.set r n).gone = t.gone ∧ (t.set r n).root = t.root := by unfold Tm.set; split <;> exact ⟨rfl, rfl⟩
theorem leave.calls (h : Mt w0 w K t on R L) (r : Rf) (hg : t.gone.length < 1000000) : Calls Try.prog 115 #[.pointer (some ⟨K.1, 0, none⟩), .agg #[.int .i64 r.1, .int .i64 r.2]] w fun e w' => e = .returned (.tuple #[]) ∧ Mt w0 w' K (t.leave r) on R L := by
 have hu59 := Try.underlying59
 have hu33 := Try.underlying33
 have hu31 := Try.underlying31
 have hu160 := Try.underlying160
 have HM := As (show Mt w0 _ K t on R (cb w.heap.size 33 #[.int .i64 r.1, .int .i64 r.2] :: L) from h.alloc (.cells #[.int .i64 r.1, .int .i64 r.2] 33))
 obtain ⟨n, hn⟩ : ∃ n, t.at r = n := ⟨_, rfl⟩
 have HE := As hn
 have HG0 := As (show (t.gone.length + 1) * 16 ≤ 140737488355328 by omega)
 have ew : IntKind.i64.wrap (n.ver + 1) = wrap64 (n.ver + 1) := i64_w _
 clear h hn hg
 obtain ⟨y0, y1, -, -⟩ := HM.out.other.c2 w.heap.size 33 (.int .i64 r.1) (.int .i64 r.2) (by simp)
 go_enter Try.func115, Try.ntmps115
 go_upto_region 2 with (go_at_call 111; go_loud (refine (at.calls HM.out r).mono ?_); rintro e2 w2 ⟨v, rfl, hnv, hh⟩; rw [HE.out] at hnv; obtain ⟨ka, kc, ra, rc, ev, hr⟩ := hnv; have ev' : v = .agg #[.bool n.leaf, .int .i64 n.ver, .slice ka n.keys.length kc, .slice ra n.refs.length rc] := ev; subst ev'; clear ev; have HN := As hr; have H2 := As hh; clear hh hr; clear y0 y1; obtain ⟨y0, y1, -, -⟩ := H2.out.other.c2 w.heap.size 33 (.int .i64 r.1) (.int .i64 r.2) (by simp))
 obtain ⟨W3, hW, hM⟩ : ∃ W, W = w2.alloc (.cells #[.bool n.leaf, .int .i64 n.ver, .slice ka n.keys.length kc, .slice ra n.refs.length rc] 59) ∧ Mt w0 W K t on R (cb w2.heap.size 59 #[.bool n.leaf, .int .i64 n.ver, .slice ka n.keys.length kc, .slice ra n.refs.length rc] :: cb w.heap.size 33 #[.int .i64 r.1, .int .i64 r.2] :: L) := ⟨_, rfl, H2.out.alloc _⟩
 rw [← hW]
 have H3 := As hM
 clear hW hM y0 y1
 generalize w2.heap.size = g4 at H3 ⊢
 obtain ⟨n0, n1, n2, n3, f0, f1, f2, f3⟩ := H3.out.other.c4 g4 59 (.bool n.leaf) (.int .i64 n.ver) (.slice ka n.keys.length kc) (.slice ra n.refs.length rc) (by simp)
 go_upto_region 3 with (fail)
 obtain ⟨W4, hW, hM⟩ : ∃ W, W = W3.setCell ⟨g4, 1, none⟩ (.int .i64 (wrap64 (n.ver + 1))) ∧ Mt w0 W K t on R (cb g4 59 #[.bool n.leaf, .int .i64 (wrap64 (n.ver + 1)), .slice ka n.keys.length kc, .slice ra n.refs.length rc] :: cb w.heap.size 33 #[.int .i64 r.1, .int .i64 r.2] :: L) := ⟨_, rfl, H3.out.putB0 1 _ rfl⟩
 rw [← hW]
 have HD := As hM.drew
 clear hW hM n0 n1 n2 n3 f0 f1 f2 f3
 have SP := As (show ∀ (w' : World) (t' : Tm), Mt w0 w' K t' on R (cb g4 59 #[.bool n.leaf, .int .i64 (wrap64 (n.ver + 1)), .slice ka n.keys.length kc, .slice ra n.refs.length rc] :: cb w.heap.size 33 #[.int .i64 r.1, .int .i64 r.2] :: L) → (w'.cell? ⟨K.1, 0, none⟩ = some (.pointer (some ⟨K.2.1, 0, none⟩)) ∧ w'.cell? ⟨w.heap.size, 0, none⟩ = some (.int .i64 r.1) ∧ w'.cell? ⟨w.heap.size, 1, none⟩ = some (.int .i64 r.2) ∧ w'.cell? ⟨g4, 0, none⟩ = some (.bool n.leaf) ∧ w'.cell? ⟨g4, 1, none⟩ = some (.int .i64 (wrap64 (n.ver + 1))) ∧ w'.cell? ⟨g4, 2, none⟩ = some (.slice ka n.keys.length kc) ∧ w'.cell? ⟨g4, 3, none⟩ = some (.slice ra n.refs.length rc)) from fun w' t' h => by
  obtain ⟨c0, -, -, -, -, -, -⟩ := h.cells
  obtain ⟨p0, p1, -, -⟩ := h.other.c2 w.heap.size 33 (.int .i64 r.1) (.int .i64 r.2) (by simp)
  obtain ⟨n0, n1, n2, n3, -, -, -, -⟩ := h.other.c4 g4 59 (.bool n.leaf) (.int .i64 (wrap64 (n.ver + 1))) (.slice ka n.keys.length kc) (.slice ra n.refs.length rc) (by simp)
  exact ⟨c0, p0, p1, n0, n1, n2, n3⟩)
 refine start_ (n := 7) (S := fun w' => w'.cell? ⟨K.1, 0, none⟩ = some (.pointer (some ⟨K.2.1, 0, none⟩)) ∧ w'.cell? ⟨w.heap.size, 0, none⟩ = some (.int .i64 r.1) ∧ w'.cell? ⟨w.heap.size, 1, none⟩ = some (.int .i64 r.2) ∧ w'.cell? ⟨g4, 0, none⟩ = some (.bool n.leaf) ∧ w'.cell? ⟨g4, 1, none⟩ = some (.int .i64 (wrap64 (n.ver + 1))) ∧ w'.cell? ⟨g4, 2, none⟩ = some (.slice ka n.keys.length kc) ∧ w'.cell? ⟨g4, 3, none⟩ = some (.slice ra n.refs.length rc)) (ds := []) #[false, false, false, false, false, false, false] (by kernel_rfl) rfl rfl (SP.out _ _ HD.out) (fun hHeld => ?_)
 generalize W4.drew = wr0 at HD hHeld ⊢
 refine pu_ 0 (some 12) ?_
 refine pu_ 1 (some 13) ?_
 refine pu_ 2 (some 14) ?_
 refine ta_ 3 (some 15) hHeld ?_ (hy := Or.inl ⟨by rfl, by rintro w' ⟨s0, s1, s2, s3, s4, s5, s6⟩; go_simp; with_reducible rfl⟩)
 refine ta_ 4 (some 16) hHeld ?_ (hy := Or.inl ⟨by rfl, by rintro w' ⟨s0, s1, s2, s3, s4, s5, s6⟩; go_simp; with_reducible rfl⟩)
 refine ta_ 5 (some 17) hHeld ?_ (hy := Or.inl ⟨by rfl, by rintro w' ⟨s0, s1, s2, s3, s4, s5, s6⟩; go_simp; with_reducible rfl⟩)
 refine on_ 6 (some 18) fun K_ hK => ?_
 refine gs_ Try.func112 #[.pointer (some ⟨K.2.1, 0, none⟩), .agg #[.int .i64 r.1, .int .i64 r.2], .agg #[.bool n.leaf, .int .i64 (wrap64 (n.ver + 1)), .slice ka n.keys.length kc, .slice ra n.refs.length rc]] ?_
 refine (Mt.set HD.out r (n := up1 n) ⟨ka, kc, ra, rc, rfl, ⟨HN.out.k, HN.out.r, HN.out.kc, HN.out.rc⟩⟩).mono ?_
 rintro e9 w9 ⟨rfl, hh⟩
 refine ⟨_, rfl, ?_⟩
 have H9 := As hh
 clear hh
 refine hK.out _ _ (SP.out _ _ H9.out) (fun hHeld => ?_)
 clear hK K_
 refine nm_ ?_
 refine done_ (by kernel_rfl) ?_
 clear SP hHeld
 obtain ⟨gv, G, Q, hG, hq, hLQ, back⟩ := H9.out.lensG
 rw [(set_gone t r (up1 n)).1] at hG
 obtain ⟨ad, c, rfl, -⟩ := hG.form
 have HG := As hG
 have HB := As (And.intro (hLQ _ (by simp : cb w.heap.size 33 #[.int .i64 r.1, .int .i64 r.2] ∈ _)) back)
 have HD4 := As (show Hv w0 w9.drew (G ++ (tb K (t.set r (up1 n)) (.slice ad t.gone.length c) on :: Q)) from hq.drew)
 clear hG hq hLQ back
 have hroot := (set_gone t r (up1 n)).2
 have SP := As (show ∀ (w' : World) (L' : List Ob), Hv w0 w' L' → tb K (t.set r (up1 n)) (.slice ad t.gone.length c) on ∈ L' → cb w.heap.size 33 #[.int .i64 r.1, .int .i64 r.2] ∈ L' → (w'.cell? ⟨K.1, 3, none⟩ = some (.slice ad t.gone.length c) ∧ w'.cell? ⟨w.heap.size, 0, none⟩ = some (.int .i64 r.1) ∧ w'.cell? ⟨w.heap.size, 1, none⟩ = some (.int .i64 r.2)) from fun w' L' h m1 m2 => by
  obtain ⟨-, -, -, c3, -, -, -, -, -, -⟩ := h.c5 _ _ _ _ _ _ _ m1
  obtain ⟨p0, p1, -, -⟩ := h.c2 _ _ _ _ m2
  exact ⟨c3, p0, p1⟩)
 clear hroot
 go_upto_region 4 with (fail)
 refine start_ (n := 11) (S := fun w' => w'.cell? ⟨K.1, 3, none⟩ = some (.slice ad t.gone.length c) ∧ w'.cell? ⟨w.heap.size, 0, none⟩ = some (.int .i64 r.1) ∧ w'.cell? ⟨w.heap.size, 1, none⟩ = some (.int .i64 r.2)) (ds := [10]) #[false, false, false, false, false, false, false, false, false, false, false] (by kernel_rfl) rfl rfl (SP.out _ _ HD4.out (by simp) (by simp [HB.out.1])) (fun hHeld => ?_)
 generalize w9.drew = wx0 at HD4 hHeld ⊢
 refine pu_ 0 (some 19) ?_
 refine pu_ 1 (some 20) ?_
 refine pu_ 2 (some 21) ?_
 refine pu_ 3 (some 22) ?_
 refine ta_ 4 (some 23) hHeld ?_ (hy := Or.inl ⟨by rfl, by rintro w' ⟨s0, s1, s2⟩; go_simp; with_reducible rfl⟩)
 refine ta_ 5 (some 24) hHeld ?_ (hy := Or.inl ⟨by rfl, by rintro w' ⟨s0, s1, s2⟩; go_simp; with_reducible rfl⟩)
 refine on_ 6 (some 25) fun K_ hK => ?_
 refine value_ (v := .slice (some ⟨wx0.heap.size, 0, none⟩) 1 1) (w1 := wx0.alloc (.cells #[.int .i64 r.1, .int .i64 r.2] 33)) (by rfl) rfl ?_ ?_
 ·go_simp
 obtain ⟨wr1, hW, hvv⟩ : ∃ W, W = wx0.alloc (.cells #[.int .i64 r.1, .int .i64 r.2] 33) ∧ Hv w0 W (G ++ (cb wx0.heap.size 33 #[.int .i64 r.1, .int .i64 r.2] :: tb K (t.set r (up1 n)) (.slice ad t.gone.length c) on :: Q)) := ⟨_, rfl, (HD4.out.alloc _).perm List.perm_middle⟩
 rw [← hW]
 have HR1 := As hvv
 clear hW hvv
 refine hK.out _ _ (SP.out _ _ HR1.out (by simp) (by simp [HB.out.1])) (fun hHeld => ?_)
 clear hK K_
 refine nm_ ?_
 refine on_ 7 (some 26) fun K_ hK => ?_
 refine append_rows_step (w0 := w0) (A := G) (L := cb wx0.heap.size 33 #[.int .i64 r.1, .int .i64 r.2] :: tb K (t.set r (up1 n)) (.slice ad t.gone.length c) on :: Q) (by rfl) (.tmp 23) (.tmp 25) 31 33 (.agg #[.int .i64 0, .int .i64 0]) 2 16 rfl Try.underlying31 infoR rfl (by decide) (by decide) (.slice ad t.gone.length c) t.gone.length (t.gone.flatMap rcel) (by first | rfl | (go_simp; done) | (go_simp; rfl)) (some ⟨wx0.heap.size, 0, none⟩) 1 1 (rcel r) (by first | rfl | (go_simp; done) | (go_simp; rfl)) (by intro u hu; simp [rcel] at hu; rcases hu with rfl | rfl <;> rfl) HG.out HR1.out ((Rdy.of_rw (w0 := w0) (size := 2) (n := 1) (e := 33) (c := 1) (xs := rcel r) ⟨rfl, Nat.le_refl _, fun _ => ⟨wx0.heap.size, 0, #[.int .i64 r.1, .int .i64 r.2], rfl, by simp, fun i _ => by rw [Nat.zero_add]; simp [rcel]⟩⟩).now HR1.out) HG0.out ?_
 intro v5 wr2 A1 hG5 hv5
 have HG5 := As hG5
 have HR2 := As hv5
 obtain ⟨ad1, c1, rfl, -⟩ := hG5.form
 clear hG5 hv5
 refine hK.out _ _ (SP.out _ _ HR2.out (by simp) (by simp [HB.out.1])) (fun hHeld => ?_)
 clear hK K_
 refine nm_ ?_
 refine pu_ 8 (some 27) ?_
 refine pu_ 9 (some 28) ?_
 refine la_ 10 none fun K_ hK => ?_
 obtain ⟨-, -, -, c3, -, -, -, -, cf3, -⟩ := HR2.out.c5 K.1 160 _ _ _ _ _ (by simp : tb K (t.set r (up1 n)) (.slice ad t.gone.length c) on ∈ _)
 refine sk_ (hK.out _ _ ?_)
 clear hK K_ c3 cf3
 refine done_ (by kernel_rfl) ?_
 go_wp2_with fail
 go_end0
 have hfin := HB.out.2 _ _ A1 (t.gone ++ [r]) (by have := HG5.out; simpa using this) ((Hv.putA1 HR2.out 3 _ rfl).drop (List.Sublist.append_left (List.sublist_cons_self _ _) A1))
 exact ⟨rfl, by unfold Tm.leave; rw [HE.out]; exact hfin.tail.tail⟩
end
end Go.Proofs.Ytglbcfkmaamhaaa.Tr
