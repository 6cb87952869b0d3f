/- NewPacer of the program answers as the reference's NewPacer at both whole numbers; no condition. -/
import Derived.Test.YtagkaanogeafoaaPFnExactNewPacerx1
namespace Go.Proofs.Ytagkaanogeafoaa.Pure
open Go.RowKit Go.Proofs.Ytagkaanogeafoaa.PFnExactNewPacer Go.Proofs.YtagkaanogeafoaaW.PrintWords Go.Proofs.YtagkaanogeafoaaW.PrintLast

/-- YOURS: ∀ (a0 : Int) (a1 : Int), (Lit.int .i64 a0).wf = true → (Lit.int .i64 a1).wf = true → laws_FnExactNewPacer.f a0 a1 = some true
What it reaches (each with k first where it has rounds; `.mono`: more rounds tell the same; `.l0`, ..: its loops, with `.mono_l`): spec_l1In.f, spec_l16Said.f, spec_NewPacer.f, impl_within.f, impl_isRate.f, impl_NewPacer.f, laws_eqPacer.f, laws_FnExactNewPacer.f -/
theorem FnExactNewPacer : laws_FnExactNewPacer.Pure := by
  intro a0 a1 h0 h1
  have e1 : ∀ a b c : Int, impl_within.f a b c = some (decide (b ≤ a ∧ a ≤ c)) := by
    intro a b c; unfold impl_within.f; by_cases h : b ≤ a <;> simp [h]
  have e2 : ∀ a b c : Int, spec_l1In.f a b c = some (decide (b ≤ a ∧ a ≤ c)) := by
    intro a b c; unfold spec_l1In.f; by_cases h : b ≤ a <;> simp [h]
  have e3 : impl_isRate.f a0 a1 = spec_l16Said.f a0 a1 := by
    unfold impl_isRate.f spec_l16Said.f; simp only [e1, e2]
  have e4 : ∃ r, spec_NewPacer.f a0 a1 = some r ∧ impl_NewPacer.f a0 a1 = some r := by
    unfold spec_NewPacer.f impl_NewPacer.f
    rw [e3]
    unfold spec_l16Said.f
    simp only [e2, Option.bind_some, decide_eq_true_eq]
    by_cases h : 1 ≤ a0 ∧ a0 ≤ 10000
    · rw [if_pos h]
      simp only [Option.bind_some, decide_eq_true_eq]
      by_cases h' : 0 ≤ a1 ∧ a1 ≤ 100000
      · rw [if_pos h']; exact ⟨_, rfl, rfl⟩
      · rw [if_neg h']; exact ⟨_, rfl, rfl⟩
    · rw [if_neg h]; exact ⟨_, rfl, rfl⟩
  obtain ⟨r, hs, hi⟩ := e4
  unfold laws_FnExactNewPacer.f laws_eqPacer.f
  rw [hs, hi]
  simp

end Go.Proofs.Ytagkaanogeafoaa.Pure
