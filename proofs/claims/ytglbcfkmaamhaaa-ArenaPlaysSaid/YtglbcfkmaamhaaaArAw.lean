/- Arena: awake; ArenaNone. No condition. -/
import Derived.Test.YtglbcfkmaamhaaaArIC
set_option linter.unusedVariables false
set_option linter.unusedSimpArgs false
namespace Go.Proofs.Ytglbcfkmaamhaaa.ArI
open Go Go.RowKit Go.Proofs.YtglbcfkmaamhaaaW.PrintWords Go.Proofs.YtglbcfkmaamhaaaW.PrintLast Go.Proofs.YtglbcfkmaamhaaaW.PrintMore Go.Proofs.Ytglbcfkmaamhaaa.Hv Go.Proofs.Ytglbcfkmaamhaaa.Arm
set_option maxHeartbeats 8000000 in
set_option maxRecDepth 100000 in
theorem awake.calls (w : World) : Calls Try.prog 15 #[] w fun e w' => e = .returned (.bool true) ∧ Below w.heap.size w w' := by
  have hu33 := Try.underlying33
  have hu24 := Try.underlying24
  go_enter Try.func15, Try.ntmps15
  go_wp2_with fail
  refine (New (Hv.start w) 2).mono ?_
  rintro e1 w1 ⟨g, sb, rfl, h1⟩
  have H1 := Aside0.mk (show Arn w w1 g sb ⟨[⟨[.int .i64 0], 0, false⟩, ⟨[.int .i64 0], 0, false⟩], [], 0⟩ [] from h1)
  clear h1
  go_wp2_with fail
  refine (H1.out.Take 5 (a := 0) (b := 1) (er := 0) (s' := ⟨[⟨[.int .i64 5], 1, true⟩, ⟨[.int .i64 0], 0, false⟩], [], 1⟩) (by simp [tk, Ar.took, Ar.room, Ar.n, Ar.held, Ar.take, Ar.gen, Ar.slot, Ar.next, wrap64]) (by simp [tk, Ar.took, Ar.room, Ar.n, Ar.held, Ar.take, Ar.gen, Ar.slot, Ar.next, wrap64])).mono ?_
  rintro e2 w2 ⟨rfl, hh⟩
  have H2 := Aside0.mk (hh.alloc (.cells #[.int .i64 0, .int .i64 1] 33))
  clear hh
  have b0a : (w2.alloc (.cells #[.int .i64 0, .int .i64 1] 33)).cell? ⟨w2.heap.size, 0, none⟩ = some (.int .i64 0) := H2.out.other.cell (g := w2.heap.size) (t := 33) (cs := #[.int .i64 0, .int .i64 1]) (by simp) 0 rfl
  have b0b : (w2.alloc (.cells #[.int .i64 0, .int .i64 1] 33)).cell? ⟨w2.heap.size, 1, none⟩ = some (.int .i64 1) := H2.out.other.cell (g := w2.heap.size) (t := 33) (cs := #[.int .i64 0, .int .i64 1]) (by simp) 1 rfl
  go_wp2_with fail
  refine (H2.out.Take 6 (a := 1) (b := 1) (er := 0) (s' := ⟨[⟨[.int .i64 5], 1, true⟩, ⟨[.int .i64 6], 1, true⟩], [], 2⟩) (by simp [tk, Ar.took, Ar.room, Ar.n, Ar.held, Ar.take, Ar.gen, Ar.slot, Ar.next, wrap64]) (by simp [tk, Ar.took, Ar.room, Ar.n, Ar.held, Ar.take, Ar.gen, Ar.slot, Ar.next, wrap64])).mono ?_
  rintro e3 w3 ⟨rfl, hh⟩
  have H3 := Aside0.mk (hh.alloc (.cells #[.int .i64 1, .int .i64 1] 33))
  clear hh b0a b0b
  have b0a : (w3.alloc (.cells #[.int .i64 1, .int .i64 1] 33)).cell? ⟨w3.heap.size, 0, none⟩ = some (.int .i64 1) := H3.out.other.cell (g := w3.heap.size) (t := 33) (cs := #[.int .i64 1, .int .i64 1]) (by simp) 0 rfl
  have b0b : (w3.alloc (.cells #[.int .i64 1, .int .i64 1] 33)).cell? ⟨w3.heap.size, 1, none⟩ = some (.int .i64 1) := H3.out.other.cell (g := w3.heap.size) (t := 33) (cs := #[.int .i64 1, .int .i64 1]) (by simp) 1 rfl
  have b1a : (w3.alloc (.cells #[.int .i64 1, .int .i64 1] 33)).cell? ⟨w2.heap.size, 0, none⟩ = some (.int .i64 0) := H3.out.other.cell (g := w2.heap.size) (t := 33) (cs := #[.int .i64 0, .int .i64 1]) (by simp) 0 rfl
  have b1b : (w3.alloc (.cells #[.int .i64 1, .int .i64 1] 33)).cell? ⟨w2.heap.size, 1, none⟩ = some (.int .i64 1) := H3.out.other.cell (g := w2.heap.size) (t := 33) (cs := #[.int .i64 0, .int .i64 1]) (by simp) 1 rfl
  go_wp2_with fail
  refine (H3.out.Take 7 (a := 0) (b := 0) (er := 20) (s' := ⟨[⟨[.int .i64 5], 1, true⟩, ⟨[.int .i64 6], 1, true⟩], [], 2⟩) (by simp [tk, Ar.took, Ar.room, Ar.n, Ar.held, Ar.take, Ar.gen, Ar.slot, Ar.next, wrap64]) (by simp [tk, Ar.took, Ar.room, Ar.n, Ar.held, Ar.take, Ar.gen, Ar.slot, Ar.next, wrap64])).mono ?_
  rintro e4 w4 ⟨rfl, hh⟩
  have H4 := Aside0.mk (hh.alloc (.cells #[.int .i64 0, .int .i64 0] 33))
  clear hh b0a b0b b1a b1b
  have b0a : (w4.alloc (.cells #[.int .i64 0, .int .i64 0] 33)).cell? ⟨w4.heap.size, 0, none⟩ = some (.int .i64 0) := H4.out.other.cell (g := w4.heap.size) (t := 33) (cs := #[.int .i64 0, .int .i64 0]) (by simp) 0 rfl
  have b0b : (w4.alloc (.cells #[.int .i64 0, .int .i64 0] 33)).cell? ⟨w4.heap.size, 1, none⟩ = some (.int .i64 0) := H4.out.other.cell (g := w4.heap.size) (t := 33) (cs := #[.int .i64 0, .int .i64 0]) (by simp) 1 rfl
  have b1a : (w4.alloc (.cells #[.int .i64 0, .int .i64 0] 33)).cell? ⟨w3.heap.size, 0, none⟩ = some (.int .i64 1) := H4.out.other.cell (g := w3.heap.size) (t := 33) (cs := #[.int .i64 1, .int .i64 1]) (by simp) 0 rfl
  have b1b : (w4.alloc (.cells #[.int .i64 0, .int .i64 0] 33)).cell? ⟨w3.heap.size, 1, none⟩ = some (.int .i64 1) := H4.out.other.cell (g := w3.heap.size) (t := 33) (cs := #[.int .i64 1, .int .i64 1]) (by simp) 1 rfl
  have b2a : (w4.alloc (.cells #[.int .i64 0, .int .i64 0] 33)).cell? ⟨w2.heap.size, 0, none⟩ = some (.int .i64 0) := H4.out.other.cell (g := w2.heap.size) (t := 33) (cs := #[.int .i64 0, .int .i64 1]) (by simp) 0 rfl
  have b2b : (w4.alloc (.cells #[.int .i64 0, .int .i64 0] 33)).cell? ⟨w2.heap.size, 1, none⟩ = some (.int .i64 1) := H4.out.other.cell (g := w2.heap.size) (t := 33) (cs := #[.int .i64 0, .int .i64 1]) (by simp) 1 rfl
  go_wp2_with fail
  refine (H4.out.Get 0 1 rfl 5 rfl).mono ?_
  rintro e5 w5 ⟨rfl, hh⟩
  have H5 := Aside0.mk hh
  clear hh b0a b0b b1a b1b b2a b2b
  have b0a : (w5).cell? ⟨w4.heap.size, 0, none⟩ = some (.int .i64 0) := H5.out.other.cell (g := w4.heap.size) (t := 33) (cs := #[.int .i64 0, .int .i64 0]) (by simp) 0 rfl
  have b0b : (w5).cell? ⟨w4.heap.size, 1, none⟩ = some (.int .i64 0) := H5.out.other.cell (g := w4.heap.size) (t := 33) (cs := #[.int .i64 0, .int .i64 0]) (by simp) 1 rfl
  have b1a : (w5).cell? ⟨w3.heap.size, 0, none⟩ = some (.int .i64 1) := H5.out.other.cell (g := w3.heap.size) (t := 33) (cs := #[.int .i64 1, .int .i64 1]) (by simp) 0 rfl
  have b1b : (w5).cell? ⟨w3.heap.size, 1, none⟩ = some (.int .i64 1) := H5.out.other.cell (g := w3.heap.size) (t := 33) (cs := #[.int .i64 1, .int .i64 1]) (by simp) 1 rfl
  have b2a : (w5).cell? ⟨w2.heap.size, 0, none⟩ = some (.int .i64 0) := H5.out.other.cell (g := w2.heap.size) (t := 33) (cs := #[.int .i64 0, .int .i64 1]) (by simp) 0 rfl
  have b2b : (w5).cell? ⟨w2.heap.size, 1, none⟩ = some (.int .i64 1) := H5.out.other.cell (g := w2.heap.size) (t := 33) (cs := #[.int .i64 0, .int .i64 1]) (by simp) 1 rfl
  go_wp2_with fail
  refine (H5.out.Free 0 1 (b := true) (s' := ⟨[⟨[.int .i64 0], 1, false⟩, ⟨[.int .i64 6], 1, true⟩], [0], 2⟩) rfl rfl).mono ?_
  rintro e6 w6 ⟨rfl, hh⟩
  have H6 := Aside0.mk hh
  clear hh b0a b0b b1a b1b b2a b2b
  have b0a : (w6).cell? ⟨w4.heap.size, 0, none⟩ = some (.int .i64 0) := H6.out.other.cell (g := w4.heap.size) (t := 33) (cs := #[.int .i64 0, .int .i64 0]) (by simp) 0 rfl
  have b0b : (w6).cell? ⟨w4.heap.size, 1, none⟩ = some (.int .i64 0) := H6.out.other.cell (g := w4.heap.size) (t := 33) (cs := #[.int .i64 0, .int .i64 0]) (by simp) 1 rfl
  have b1a : (w6).cell? ⟨w3.heap.size, 0, none⟩ = some (.int .i64 1) := H6.out.other.cell (g := w3.heap.size) (t := 33) (cs := #[.int .i64 1, .int .i64 1]) (by simp) 0 rfl
  have b1b : (w6).cell? ⟨w3.heap.size, 1, none⟩ = some (.int .i64 1) := H6.out.other.cell (g := w3.heap.size) (t := 33) (cs := #[.int .i64 1, .int .i64 1]) (by simp) 1 rfl
  have b2a : (w6).cell? ⟨w2.heap.size, 0, none⟩ = some (.int .i64 0) := H6.out.other.cell (g := w2.heap.size) (t := 33) (cs := #[.int .i64 0, .int .i64 1]) (by simp) 0 rfl
  have b2b : (w6).cell? ⟨w2.heap.size, 1, none⟩ = some (.int .i64 1) := H6.out.other.cell (g := w2.heap.size) (t := 33) (cs := #[.int .i64 0, .int .i64 1]) (by simp) 1 rfl
  go_wp2_with fail
  refine (H6.out.GetNo 0 1 rfl).mono ?_
  rintro e7 w7 ⟨rfl, hh⟩
  have H7 := Aside0.mk hh
  clear hh b0a b0b b1a b1b b2a b2b
  have b0a : (w7).cell? ⟨w4.heap.size, 0, none⟩ = some (.int .i64 0) := H7.out.other.cell (g := w4.heap.size) (t := 33) (cs := #[.int .i64 0, .int .i64 0]) (by simp) 0 rfl
  have b0b : (w7).cell? ⟨w4.heap.size, 1, none⟩ = some (.int .i64 0) := H7.out.other.cell (g := w4.heap.size) (t := 33) (cs := #[.int .i64 0, .int .i64 0]) (by simp) 1 rfl
  have b1a : (w7).cell? ⟨w3.heap.size, 0, none⟩ = some (.int .i64 1) := H7.out.other.cell (g := w3.heap.size) (t := 33) (cs := #[.int .i64 1, .int .i64 1]) (by simp) 0 rfl
  have b1b : (w7).cell? ⟨w3.heap.size, 1, none⟩ = some (.int .i64 1) := H7.out.other.cell (g := w3.heap.size) (t := 33) (cs := #[.int .i64 1, .int .i64 1]) (by simp) 1 rfl
  have b2a : (w7).cell? ⟨w2.heap.size, 0, none⟩ = some (.int .i64 0) := H7.out.other.cell (g := w2.heap.size) (t := 33) (cs := #[.int .i64 0, .int .i64 1]) (by simp) 0 rfl
  have b2b : (w7).cell? ⟨w2.heap.size, 1, none⟩ = some (.int .i64 1) := H7.out.other.cell (g := w2.heap.size) (t := 33) (cs := #[.int .i64 0, .int .i64 1]) (by simp) 1 rfl
  go_wp2_with fail
  refine (H7.out.Take 8 (a := 0) (b := 2) (er := 0) (s' := ⟨[⟨[.int .i64 8], 2, true⟩, ⟨[.int .i64 6], 1, true⟩], [], 2⟩) (by simp [tk, Ar.took, Ar.room, Ar.n, Ar.held, Ar.take, Ar.gen, Ar.slot, Ar.next, wrap64]) (by simp [tk, Ar.took, Ar.room, Ar.n, Ar.held, Ar.take, Ar.gen, Ar.slot, Ar.next, wrap64])).mono ?_
  rintro e8 w8 ⟨rfl, hh⟩
  have H8 := Aside0.mk (hh.alloc (.cells #[.int .i64 0, .int .i64 2] 33))
  clear hh b0a b0b b1a b1b b2a b2b
  have b0a : (w8.alloc (.cells #[.int .i64 0, .int .i64 2] 33)).cell? ⟨w8.heap.size, 0, none⟩ = some (.int .i64 0) := H8.out.other.cell (g := w8.heap.size) (t := 33) (cs := #[.int .i64 0, .int .i64 2]) (by simp) 0 rfl
  have b0b : (w8.alloc (.cells #[.int .i64 0, .int .i64 2] 33)).cell? ⟨w8.heap.size, 1, none⟩ = some (.int .i64 2) := H8.out.other.cell (g := w8.heap.size) (t := 33) (cs := #[.int .i64 0, .int .i64 2]) (by simp) 1 rfl
  have b1a : (w8.alloc (.cells #[.int .i64 0, .int .i64 2] 33)).cell? ⟨w4.heap.size, 0, none⟩ = some (.int .i64 0) := H8.out.other.cell (g := w4.heap.size) (t := 33) (cs := #[.int .i64 0, .int .i64 0]) (by simp) 0 rfl
  have b1b : (w8.alloc (.cells #[.int .i64 0, .int .i64 2] 33)).cell? ⟨w4.heap.size, 1, none⟩ = some (.int .i64 0) := H8.out.other.cell (g := w4.heap.size) (t := 33) (cs := #[.int .i64 0, .int .i64 0]) (by simp) 1 rfl
  have b2a : (w8.alloc (.cells #[.int .i64 0, .int .i64 2] 33)).cell? ⟨w3.heap.size, 0, none⟩ = some (.int .i64 1) := H8.out.other.cell (g := w3.heap.size) (t := 33) (cs := #[.int .i64 1, .int .i64 1]) (by simp) 0 rfl
  have b2b : (w8.alloc (.cells #[.int .i64 0, .int .i64 2] 33)).cell? ⟨w3.heap.size, 1, none⟩ = some (.int .i64 1) := H8.out.other.cell (g := w3.heap.size) (t := 33) (cs := #[.int .i64 1, .int .i64 1]) (by simp) 1 rfl
  have b3a : (w8.alloc (.cells #[.int .i64 0, .int .i64 2] 33)).cell? ⟨w2.heap.size, 0, none⟩ = some (.int .i64 0) := H8.out.other.cell (g := w2.heap.size) (t := 33) (cs := #[.int .i64 0, .int .i64 1]) (by simp) 0 rfl
  have b3b : (w8.alloc (.cells #[.int .i64 0, .int .i64 2] 33)).cell? ⟨w2.heap.size, 1, none⟩ = some (.int .i64 1) := H8.out.other.cell (g := w2.heap.size) (t := 33) (cs := #[.int .i64 0, .int .i64 1]) (by simp) 1 rfl
  go_wp2_with fail
  refine (H8.out.Room (r := 0) rfl).mono ?_
  rintro e9 w9 ⟨rfl, hh⟩
  have H9 := Aside0.mk hh
  clear hh b0a b0b b1a b1b b2a b2b b3a b3b
  have b0a : (w9).cell? ⟨w8.heap.size, 0, none⟩ = some (.int .i64 0) := H9.out.other.cell (g := w8.heap.size) (t := 33) (cs := #[.int .i64 0, .int .i64 2]) (by simp) 0 rfl
  have b0b : (w9).cell? ⟨w8.heap.size, 1, none⟩ = some (.int .i64 2) := H9.out.other.cell (g := w8.heap.size) (t := 33) (cs := #[.int .i64 0, .int .i64 2]) (by simp) 1 rfl
  have b1a : (w9).cell? ⟨w4.heap.size, 0, none⟩ = some (.int .i64 0) := H9.out.other.cell (g := w4.heap.size) (t := 33) (cs := #[.int .i64 0, .int .i64 0]) (by simp) 0 rfl
  have b1b : (w9).cell? ⟨w4.heap.size, 1, none⟩ = some (.int .i64 0) := H9.out.other.cell (g := w4.heap.size) (t := 33) (cs := #[.int .i64 0, .int .i64 0]) (by simp) 1 rfl
  have b2a : (w9).cell? ⟨w3.heap.size, 0, none⟩ = some (.int .i64 1) := H9.out.other.cell (g := w3.heap.size) (t := 33) (cs := #[.int .i64 1, .int .i64 1]) (by simp) 0 rfl
  have b2b : (w9).cell? ⟨w3.heap.size, 1, none⟩ = some (.int .i64 1) := H9.out.other.cell (g := w3.heap.size) (t := 33) (cs := #[.int .i64 1, .int .i64 1]) (by simp) 1 rfl
  have b3a : (w9).cell? ⟨w2.heap.size, 0, none⟩ = some (.int .i64 0) := H9.out.other.cell (g := w2.heap.size) (t := 33) (cs := #[.int .i64 0, .int .i64 1]) (by simp) 0 rfl
  have b3b : (w9).cell? ⟨w2.heap.size, 1, none⟩ = some (.int .i64 1) := H9.out.other.cell (g := w2.heap.size) (t := 33) (cs := #[.int .i64 0, .int .i64 1]) (by simp) 1 rfl
  go_wp2_with fail
  refine (H9.out.Live (l := [(0, 2), (1, 1)]) rfl (n := 2) rfl).mono ?_
  rintro e10 w10 ⟨ad, c, A, rfl, -, hh⟩
  have H10 := Aside0.mk hh
  clear hh b0a b0b b1a b1b b2a b2b b3a b3b
  have b0a : (w10).cell? ⟨w8.heap.size, 0, none⟩ = some (.int .i64 0) := H10.out.other.cell (g := w8.heap.size) (t := 33) (cs := #[.int .i64 0, .int .i64 2]) (by simp) 0 rfl
  have b0b : (w10).cell? ⟨w8.heap.size, 1, none⟩ = some (.int .i64 2) := H10.out.other.cell (g := w8.heap.size) (t := 33) (cs := #[.int .i64 0, .int .i64 2]) (by simp) 1 rfl
  have b1a : (w10).cell? ⟨w4.heap.size, 0, none⟩ = some (.int .i64 0) := H10.out.other.cell (g := w4.heap.size) (t := 33) (cs := #[.int .i64 0, .int .i64 0]) (by simp) 0 rfl
  have b1b : (w10).cell? ⟨w4.heap.size, 1, none⟩ = some (.int .i64 0) := H10.out.other.cell (g := w4.heap.size) (t := 33) (cs := #[.int .i64 0, .int .i64 0]) (by simp) 1 rfl
  have b2a : (w10).cell? ⟨w3.heap.size, 0, none⟩ = some (.int .i64 1) := H10.out.other.cell (g := w3.heap.size) (t := 33) (cs := #[.int .i64 1, .int .i64 1]) (by simp) 0 rfl
  have b2b : (w10).cell? ⟨w3.heap.size, 1, none⟩ = some (.int .i64 1) := H10.out.other.cell (g := w3.heap.size) (t := 33) (cs := #[.int .i64 1, .int .i64 1]) (by simp) 1 rfl
  have b3a : (w10).cell? ⟨w2.heap.size, 0, none⟩ = some (.int .i64 0) := H10.out.other.cell (g := w2.heap.size) (t := 33) (cs := #[.int .i64 0, .int .i64 1]) (by simp) 0 rfl
  have b3b : (w10).cell? ⟨w2.heap.size, 1, none⟩ = some (.int .i64 1) := H10.out.other.cell (g := w2.heap.size) (t := 33) (cs := #[.int .i64 0, .int .i64 1]) (by simp) 1 rfl
  go_wp2_with fail
  refine (H10.out.Set 0 1 1 (b := false) (s' := ⟨[⟨[.int .i64 8], 2, true⟩, ⟨[.int .i64 6], 1, true⟩], [], 2⟩) rfl rfl).mono ?_
  rintro e11 w11 ⟨rfl, hh⟩
  have H11 := Aside0.mk hh
  clear hh b0a b0b b1a b1b b2a b2b b3a b3b
  have b0a : (w11).cell? ⟨w8.heap.size, 0, none⟩ = some (.int .i64 0) := H11.out.other.cell (g := w8.heap.size) (t := 33) (cs := #[.int .i64 0, .int .i64 2]) (by simp) 0 rfl
  have b0b : (w11).cell? ⟨w8.heap.size, 1, none⟩ = some (.int .i64 2) := H11.out.other.cell (g := w8.heap.size) (t := 33) (cs := #[.int .i64 0, .int .i64 2]) (by simp) 1 rfl
  have b1a : (w11).cell? ⟨w4.heap.size, 0, none⟩ = some (.int .i64 0) := H11.out.other.cell (g := w4.heap.size) (t := 33) (cs := #[.int .i64 0, .int .i64 0]) (by simp) 0 rfl
  have b1b : (w11).cell? ⟨w4.heap.size, 1, none⟩ = some (.int .i64 0) := H11.out.other.cell (g := w4.heap.size) (t := 33) (cs := #[.int .i64 0, .int .i64 0]) (by simp) 1 rfl
  have b2a : (w11).cell? ⟨w3.heap.size, 0, none⟩ = some (.int .i64 1) := H11.out.other.cell (g := w3.heap.size) (t := 33) (cs := #[.int .i64 1, .int .i64 1]) (by simp) 0 rfl
  have b2b : (w11).cell? ⟨w3.heap.size, 1, none⟩ = some (.int .i64 1) := H11.out.other.cell (g := w3.heap.size) (t := 33) (cs := #[.int .i64 1, .int .i64 1]) (by simp) 1 rfl
  have b3a : (w11).cell? ⟨w2.heap.size, 0, none⟩ = some (.int .i64 0) := H11.out.other.cell (g := w2.heap.size) (t := 33) (cs := #[.int .i64 0, .int .i64 1]) (by simp) 0 rfl
  have b3b : (w11).cell? ⟨w2.heap.size, 1, none⟩ = some (.int .i64 1) := H11.out.other.cell (g := w2.heap.size) (t := 33) (cs := #[.int .i64 0, .int .i64 1]) (by simp) 1 rfl
  go_wp2_with fail
  refine (H11.out.Set 0 2 9 (b := true) (s' := ⟨[⟨[.int .i64 9], 2, true⟩, ⟨[.int .i64 6], 1, true⟩], [], 2⟩) rfl rfl).mono ?_
  rintro e12 w12 ⟨rfl, hh⟩
  have H12 := Aside0.mk hh
  clear hh b0a b0b b1a b1b b2a b2b b3a b3b
  have b0a : (w12).cell? ⟨w8.heap.size, 0, none⟩ = some (.int .i64 0) := H12.out.other.cell (g := w8.heap.size) (t := 33) (cs := #[.int .i64 0, .int .i64 2]) (by simp) 0 rfl
  have b0b : (w12).cell? ⟨w8.heap.size, 1, none⟩ = some (.int .i64 2) := H12.out.other.cell (g := w8.heap.size) (t := 33) (cs := #[.int .i64 0, .int .i64 2]) (by simp) 1 rfl
  have b1a : (w12).cell? ⟨w4.heap.size, 0, none⟩ = some (.int .i64 0) := H12.out.other.cell (g := w4.heap.size) (t := 33) (cs := #[.int .i64 0, .int .i64 0]) (by simp) 0 rfl
  have b1b : (w12).cell? ⟨w4.heap.size, 1, none⟩ = some (.int .i64 0) := H12.out.other.cell (g := w4.heap.size) (t := 33) (cs := #[.int .i64 0, .int .i64 0]) (by simp) 1 rfl
  have b2a : (w12).cell? ⟨w3.heap.size, 0, none⟩ = some (.int .i64 1) := H12.out.other.cell (g := w3.heap.size) (t := 33) (cs := #[.int .i64 1, .int .i64 1]) (by simp) 0 rfl
  have b2b : (w12).cell? ⟨w3.heap.size, 1, none⟩ = some (.int .i64 1) := H12.out.other.cell (g := w3.heap.size) (t := 33) (cs := #[.int .i64 1, .int .i64 1]) (by simp) 1 rfl
  have b3a : (w12).cell? ⟨w2.heap.size, 0, none⟩ = some (.int .i64 0) := H12.out.other.cell (g := w2.heap.size) (t := 33) (cs := #[.int .i64 0, .int .i64 1]) (by simp) 0 rfl
  have b3b : (w12).cell? ⟨w2.heap.size, 1, none⟩ = some (.int .i64 1) := H12.out.other.cell (g := w2.heap.size) (t := 33) (cs := #[.int .i64 0, .int .i64 1]) (by simp) 1 rfl
  go_wp2_with fail
  exact bodyPost_ret (v := .bool true) (by simp [results, Try.results15, go_sem]) rfl ⟨rfl, H12.out.bel⟩

set_option maxHeartbeats 8000000 in
set_option maxRecDepth 100000 in
theorem none.calls (w : World) (n i q : Int) : Calls Try.prog 5 #[.int .i64 n, .agg #[.int .i64 i, .int .i64 q]] w fun e w' => e = .returned (.bool true) ∧ Below w.heap.size w w' := by
  have hu33 := Try.underlying33
  have B0 := Aside0.mk (below_alloc (Below.refl w.heap.size w) (.cells #[.int .i64 i, .int .i64 q] 33))
  go_enter Try.func5, Try.ntmps5
  go_wp2_with fail
  refine (takeNil.calls _ n).mono ?_
  rintro e1 w1 ⟨rfl, hb⟩
  have B1 := Aside0.mk (below_alloc (below_step B0.out hb) (.cells #[.int .i64 0, .int .i64 0] 33))
  have c0 := pw_cell_below (below_alloc hb (.cells #[.int .i64 0, .int .i64 0] 33)) ((blk_cell (blk_new w (.cells #[.int .i64 i, .int .i64 q] 33)) 0).trans rfl)
  have c1 := pw_cell_below (below_alloc hb (.cells #[.int .i64 0, .int .i64 0] 33)) ((blk_cell (blk_new w (.cells #[.int .i64 i, .int .i64 q] 33)) 1).trans rfl)
  clear hb
  go_wp2_with fail
  refine (getNil.calls _ i q).mono ?_
  rintro e2 w2 ⟨rfl, hb⟩
  have B2 := Aside0.mk (below_step B1.out hb)
  have k0 := pw_cell_below hb c0
  have k1 := pw_cell_below hb c1
  have d0 := pw_cell_below hb ((blk_cell (blk_new w1 (.cells #[.int .i64 0, .int .i64 0] 33)) 0).trans rfl)
  have d1 := pw_cell_below hb ((blk_cell (blk_new w1 (.cells #[.int .i64 0, .int .i64 0] 33)) 1).trans rfl)
  clear hb c0 c1
  go_wp2_with fail
  refine (setNil.calls _ i q n).mono ?_
  rintro e3 w3 ⟨rfl, hb⟩
  have B3 := Aside0.mk (below_step B2.out hb)
  have c0 := pw_cell_below hb k0
  have c1 := pw_cell_below hb k1
  clear hb k0 k1 d0 d1
  go_wp2_with fail
  refine (freeNil.calls _ i q).mono ?_
  rintro e4 w4 ⟨rfl, hb⟩
  have B4 := Aside0.mk (below_step B3.out hb)
  clear hb c0 c1
  go_wp2_with fail
  refine (roomNil.calls _).mono ?_
  rintro e5 w5 ⟨rfl, hb⟩
  have B5 := Aside0.mk (below_step B4.out hb.below)
  clear hb
  go_wp2_with fail
  refine (liveNil.calls _).mono ?_
  rintro e6 w6 ⟨rfl, hb⟩
  have B6 := Aside0.mk (below_step B5.out hb.below)
  clear hb
  go_wp2_with fail
  refine (awake.calls _).mono ?_
  rintro e7 w7 ⟨rfl, hb⟩
  have B7 := Aside0.mk (below_step B6.out hb)
  clear hb
  go_wp2_with fail
  exact bodyPost_ret (v := .bool true) (by simp [results, Try.results5, go_sem]) rfl ⟨rfl, B7.out⟩
end Go.Proofs.Ytglbcfkmaamhaaa.ArI
