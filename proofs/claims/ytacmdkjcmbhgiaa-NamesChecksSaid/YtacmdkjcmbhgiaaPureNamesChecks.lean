/- NamesChecks: whether any text is a name: names.Check tells what the reference tells. No condition. -/
import Derived.Test.YtacmdkjcmbhgiaaQNamesChecksx2
import Derived.Lib.Strings
set_option linter.unusedVariables false
set_option linter.unusedSimpArgs false
namespace Go.Proofs.Ytacmdkjcmbhgiaa.Pure
open Go Go.RowKit Go.Proofs.Ytacmdkjcmbhgiaa.PNamesChecks Go.Proofs.YtacmdkjcmbhgiaaW.PrintWords Go.Proofs.YtacmdkjcmbhgiaaW.PrintLast


theorem awake_ok : transomlaw08_awake.f 20 = some true := by kernel_rfl
theorem awake_ev : Ev (fun k => transomlaw08_awake.f k) true := Ev.of (fun k => transomlaw08_awake.mono k) awake_ok
theorem awake_ev' : Ev (fun k => (transomlaw08_awake.f k).bind fun t => some t) true := awake_ev.bind (Ev.now true)
theorem w_succ (i n : Nat) (h : i < n) (hn : n ≤ 9223372036854775807) : wrap64 ((i : Int) + 1) = ((i + 1 : Nat) : Int) := by unfold wrap64; omega

theorem size_zero (s : ByteArray) : s.toList = ([] : List UInt8) ↔ s.size = 0 := by
  rw [Lib.toList_data]
  constructor
  · intro h
    have : s.data.toList.length = 0 := by rw [h]; rfl
    simpa using this
  · intro h
    have : s.data.toList.length = 0 := by simpa using h
    exact List.length_eq_zero_iff.1 this
theorem letter_ok (c : Int) : transomref08_letter.f c = some (lowB c) := by
  unfold transomref08_letter.f lowB
  by_cases h : c ≥ 97
  · have : 97 ≤ c := h
    simp [this]
  · have : ¬ 97 ≤ c := h
    simp [this]
theorem rl0_ev (s : ByteArray) (h0 : ¬ s.toList = ([] : List UInt8)) (h16 : ¬ 16 < (s.size : Int)) : ∀ (d i : Nat), i ≤ s.size → s.size - i = d → 1 ≤ i → OkUpto s i → Ev (fun k => transomref08_Check.l0 k s i) (names_Check.g s) := by
  intro d
  induction d with
  | zero =>
    intro i hi hd h1 hu
    have hy : names_Check.g s = 0 := isYes_at h0 h16 (fun j hj => hu j (by omega))
    rw [hy]
    exact Ev.step (f := fun _ => some 0) (fun k => by unfold transomref08_Check.l0; rw [if_neg (by omega)]) (Ev.now _)
  | succ d ih =>
    intro i hi hd h1 hu
    have hlt : i < s.size := by omega
    have hw := w_succ i s.size hlt (by omega)
    have hi0 : (i == 0) = false := by simp; omega
    have E : ∀ k, transomref08_Check.l0 (k + 1) s i = if lowB (bt s i) = true then transomref08_Check.l0 k s ((i + 1 : Nat) : Int) else if bt s i = 95 then transomref08_Check.l0 k s ((i + 1 : Nat) : Int) else if bt s i < 48 then some 8 else if bt s i > 57 then some 8 else transomref08_Check.l0 k s ((i + 1 : Nat) : Int) := fun k => by
      conv => lhs; unfold transomref08_Check.l0
      rw [if_pos (by omega), if_pos (by omega), letter_ok, hw]; rfl
    by_cases hok : okB s i = true
    · have go := ih (i + 1) (by omega) (by omega) (by omega) (hu.step hok)
      refine Ev.step (f := fun k => transomref08_Check.l0 k s ((i + 1 : Nat) : Int)) (fun k => ?_) go
      rw [E]
      unfold okB digB at hok
      rw [hi0] at hok
      by_cases c1 : lowB (bt s i) = true
      · rw [if_pos c1]
      rw [if_neg c1]
      by_cases c2 : bt s i = 95
      · rw [if_pos c2]
      rw [if_neg c2]
      simp [c1, c2] at hok
      rw [if_neg (by omega), if_neg (by omega)]
    · have hb : okB s i = false := by simpa using hok
      have hn : names_Check.g s = 8 := isNo_at h0 h16 hlt hb
      rw [hn]
      refine Ev.step (f := fun _ => some 8) (fun k => ?_) (Ev.now _)
      rw [E]
      unfold okB digB at hb
      rw [hi0] at hb
      simp only [Bool.or_eq_false_iff, Bool.not_false, Bool.true_and, Bool.and_eq_false_iff, decide_eq_false_iff_not, beq_eq_false_iff_ne] at hb
      rw [if_neg (by simp [hb.1]), if_neg hb.2.2]
      by_cases c3 : bt s i < 48
      · rw [if_pos c3]
      · rw [if_neg c3, if_pos (by omega)]
theorem rcheck_ev (s : ByteArray) : Ev (fun k => transomref08_Check.f k s) (names_Check.g s) := by
  have jt : Ev (fun k => transomref08_Check.j0 k s true) 8 := Ev.step (f := fun _ => some 8) (fun k => rfl) (Ev.now _)
  unfold transomref08_Check.f
  by_cases h0 : s.toList = ([] : List UInt8)
  · have hz := (size_zero s).1 h0
    have hg : names_Check.g s = 8 := by unfold names_Check.g; rw [if_pos h0]
    rw [hg]
    exact Ev.congr (fun k => by rw [if_pos (by omega)]) jt
  have hz : s.size ≠ 0 := fun h => h0 ((size_zero s).2 h)
  by_cases h16 : 16 < (s.size : Int)
  · have hg : names_Check.g s = 8 := by unfold names_Check.g; rw [if_neg h0, if_pos h16]
    rw [hg]
    exact Ev.congr (fun k => by rw [if_neg (by omega), if_pos h16]) jt
  refine Ev.congr (f := fun k => transomref08_Check.j0 k s (!lowB (bt s 0))) (fun k => by rw [if_neg (by omega), if_neg h16, if_pos (by omega), letter_ok]; rfl) ?_
  have hok : okB s 0 = lowB (bt s 0) := by unfold okB; simp
  by_cases c : lowB (bt s 0) = true
  · rw [c]
    refine Ev.step (f := fun k => transomref08_Check.l0 k s 1) (fun k => rfl) ?_
    refine rl0_ev s h0 h16 (s.size - 1) 1 (by omega) rfl (by omega) (fun j hj => ?_)
    obtain rfl : j = 0 := by omega
    rw [hok]; exact c
  · have c' : lowB (bt s 0) = false := by simpa using c
    rw [c', isNo_at (k := 0) h0 h16 (by omega) (by rw [hok]; exact c')]
    exact jt
theorem NamesChecks : transomlaw08_NamesChecks.Pure := by
  intro s hs
  refine Ev.rounds (g := fun k => transomlaw08_NamesChecks.f k s) ?_
  unfold transomlaw08_NamesChecks.f
  by_cases h : (s.size : Int) > 5000
  · exact Ev.congr (fun k => by rw [if_pos h]) awake_ev'
  · refine Ev.congr (f := fun k => (transomref08_Check.f k s).bind fun t => if names_Check.g s = t then (transomlaw08_awake.f k).bind fun t => some t else some false) (fun k => by rw [if_neg h]; rfl) ?_
    exact (rcheck_ev s).bind (Ev.congr (fun k => by rw [if_pos rfl]) awake_ev')

end Go.Proofs.Ytacmdkjcmbhgiaa.Pure
