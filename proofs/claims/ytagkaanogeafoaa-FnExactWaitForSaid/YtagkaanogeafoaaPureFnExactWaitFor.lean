/- The program's WaitFor answers as the reference's WaitFor at every pacer and whole number; no condition. -/
import Derived.Test.YtagkaanogeafoaaPFnExactWaitForx1
namespace Go.Proofs.Ytagkaanogeafoaa.Pure
open Go.RowKit Go.Proofs.Ytagkaanogeafoaa.PFnExactWaitFor Go.Proofs.YtagkaanogeafoaaW.PrintWords Go.Proofs.YtagkaanogeafoaaW.PrintLast Go.Proofs.YtagkaanogeafoaaW.PrintMore Go.Proofs.YtagkaanogeafoaaOwn
set_option linter.unusedVariables false
set_option linter.unusedSimpArgs false

theorem wj {j n : Nat} (h : j < n) (hn : n ≤ 4611686018427387904) : wrap64 ((j : Int) + 1) = ((j + 1 : Nat) : Int) := by
  unfold wrap64; omega
theorem w64 {x : Int} (h0 : -9223372036854775808 ≤ x) (h1 : x ≤ 9223372036854775807) : wrap64 x = x := by
  unfold wrap64; omega
theorem rdj (l : List Int) (j : Nat) : rd l (j : Int) = l.getD j 0 := rfl
theorem getD_at {α : Type} {l : List α} {j : Nat} (h : j < l.length) (z : α) : l.getD j z = l[j] := by
  rw [List.getD_eq_getElem?_getD, List.getElem?_eq_getElem h]; rfl
theorem Ev.law {g : Nat → Option Bool} (h : Ev g true) : ∃ k, g k = some true := h.rounds
theorem wf_i64 {x : Int} (h : (Lit.int .i64 x).wf = true) : -9223372036854775808 ≤ x ∧ x ≤ 9223372036854775807 := by
  simp only [Lit.wf, IntKind.min, IntKind.max, IntKind.signed, IntKind.bits, Bool.and_eq_true, decide_eq_true_eq, if_true] at h
  omega

theorem l1In_eq (a b c : Int) : spec_l1In.f a b c = some (decide (b ≤ a ∧ a ≤ c)) := by
  unfold spec_l1In.f; by_cases h : b ≤ a <;> simp [h]
theorem within_eq (a b c : Int) : impl_within.f a b c = some (decide (b ≤ a ∧ a ≤ c)) := by
  unfold impl_within.f; by_cases h : b ≤ a <;> simp [h]

theorem isRate_said (a b : Int) : impl_isRate.f a b = spec_l16Said.f a b := by
  unfold impl_isRate.f spec_l16Said.f; simp only [within_eq, l1In_eq]
theorem l16Said_eq (a b : Int) : spec_l16Said.f a b = some (decide ((1 ≤ a ∧ a ≤ 10000) ∧ 0 ≤ b ∧ b ≤ 100000)) := by
  unfold spec_l16Said.f
  simp only [l1In_eq, Option.bind_some, decide_eq_true_eq]
  by_cases h : 1 ≤ a ∧ a ≤ 10000 <;> simp [h]

theorem isPacer_good (a b c : Int) : impl_isPacer.f a b c = spec_l16Good.f a b c := by
  unfold impl_isPacer.f spec_l16Good.f; simp only [isRate_said, within_eq, l1In_eq]
theorem l16Good_some (a b c : Int) : ∃ r, spec_l16Good.f a b c = some r := by
  unfold spec_l16Good.f
  simp only [l16Said_eq, l1In_eq, Option.bind_some]
  split <;> exact ⟨_, rfl⟩
theorem FnExactWaitFor : laws_FnExactWaitFor.Pure := by
  intro x t _ _
  refine Ev.law ?_
  unfold laws_FnExactWaitFor.f laws_toPacer.f
  simp only [Option.bind_some]
  have main : ∃ r, Ev (fun k => spec_WaitFor.f k x.f0 x.f1 x.f2 t) r ∧ impl_WaitFor.f x.f0 x.f1 x.f2 t = some r := by
    unfold spec_WaitFor.f impl_WaitFor.f
    rw [isPacer_good]
    obtain ⟨b, hb⟩ := l16Good_some x.f0 x.f1 x.f2
    simp only [hb, Option.bind_some, impl_isTime.f, within_eq, l1In_eq]
    have jt : Ev (fun k => spec_WaitFor.j0 k t true x.f0 x.f1 x.f2) (0, false) := Ev.step (f := fun _ => some (0, false)) (fun k => by simp [spec_WaitFor.j0]) (Ev.now _)
    cases b with
    | false => exact ⟨(0, false), by simpa using jt, by simp⟩
    | true =>
      by_cases h : 0 ≤ t ∧ t ≤ 253402300799
      · simp only [if_true, decide_eq_true h, Bool.not_true]
        refine ⟨(mx (wrap64 (wrap64 (x.f2 - x.f1) - t)) 0, true), Ev.step (f := fun _ => some (mx (wrap64 (wrap64 (x.f2 - x.f1) - t)) 0, true)) (fun k => ?_) (Ev.now _), rfl⟩
        simp only [spec_WaitFor.j0]
        unfold mx
        rw [if_neg (by simp)]
        by_cases h2 : wrap64 (wrap64 (x.f2 - x.f1) - t) < 0
        · rw [if_pos h2, if_pos h2]
        · rw [if_neg h2, if_neg h2]
      · simp only [if_true, decide_eq_false h, Bool.not_false]
        exact ⟨(0, false), jt, by simp⟩
  obtain ⟨r, h1, h2⟩ := main
  refine Ev.bind h1 ?_
  rw [h2]
  exact Ev.congr (f := fun _ => some true) (fun k => by simp) (Ev.now _)

end Go.Proofs.Ytagkaanogeafoaa.Pure
