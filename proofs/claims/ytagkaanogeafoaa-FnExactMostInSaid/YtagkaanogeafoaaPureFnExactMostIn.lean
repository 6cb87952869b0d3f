/- MostIn of the program answers as the reference's MostIn at all three whole numbers; no condition. -/
import Derived.Test.YtagkaanogeafoaaPFnExactMostInx1
namespace Go.Proofs.Ytagkaanogeafoaa.Pure
open Go.RowKit Go.Proofs.Ytagkaanogeafoaa.PFnExactMostIn Go.Proofs.YtagkaanogeafoaaW.PrintWords Go.Proofs.YtagkaanogeafoaaW.PrintLast

/-- YOURS: ∀ (a0 : Int) (a1 : Int) (a2 : Int), (Lit.int .i64 a0).wf = true → (Lit.int .i64 a1).wf = true → (Lit.int .i64 a2).wf = true → laws_FnExactMostIn.f a0 a1 a2 = some true
What it reaches (each with k first where it has rounds; `.mono`: more rounds tell the same; `.l0`, ..: its loops, with `.mono_l`): spec_l1In.f, spec_l16Said.f, spec_MostIn.f, impl_within.f, impl_isRate.f, impl_MostIn.f, laws_FnExactMostIn.f -/
theorem FnExactMostIn : laws_FnExactMostIn.Pure := by
  intro a0 a1 a2 h0 h1 h2
  have e1 : ∀ a b c : Int, impl_within.f a b c = some (decide (b ≤ a ∧ a ≤ c)) := by
    intro a b c; unfold impl_within.f; by_cases h : b ≤ a <;> simp [h]
  have e2 : ∀ a b c : Int, spec_l1In.f a b c = some (decide (b ≤ a ∧ a ≤ c)) := by
    intro a b c; unfold spec_l1In.f; by_cases h : b ≤ a <;> simp [h]
  have e3 : impl_isRate.f a0 a1 = spec_l16Said.f a0 a1 := by
    unfold impl_isRate.f spec_l16Said.f; simp only [e1, e2]
  have e4 : ∃ r, spec_MostIn.f a0 a1 a2 = some r ∧ impl_MostIn.f a0 a1 a2 = some r := by
    unfold spec_MostIn.f impl_MostIn.f
    rw [e3]
    unfold spec_l16Said.f
    simp only [e1, e2, Option.bind_some, decide_eq_true_eq]
    by_cases h : 1 ≤ a0 ∧ a0 ≤ 10000
    · rw [if_pos h]
      simp only [Option.bind_some, decide_eq_true_eq]
      by_cases h' : 0 ≤ a1 ∧ a1 ≤ 100000
      · rw [if_pos h']
        by_cases h'' : 0 ≤ a2 ∧ a2 ≤ 1000000
        · rw [if_pos h'', if_neg (by omega)]; exact ⟨_, rfl, rfl⟩
        · rw [if_neg h'']; exact ⟨_, rfl, rfl⟩
      · rw [if_neg h']; exact ⟨_, rfl, rfl⟩
    · rw [if_neg h]; exact ⟨_, rfl, rfl⟩
  obtain ⟨r, hs, hi⟩ := e4
  unfold laws_FnExactMostIn.f
  rw [hs, hi]
  simp

end Go.Proofs.Ytagkaanogeafoaa.Pure
