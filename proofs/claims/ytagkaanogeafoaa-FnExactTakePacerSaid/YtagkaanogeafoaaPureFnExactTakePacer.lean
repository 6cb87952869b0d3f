/- The program's TakePacer answers as the reference's TakePacer at every pacer and whole number; no condition. -/
import Derived.Test.YtagkaanogeafoaaPFnExactTakePacerx1
namespace Go.Proofs.Ytagkaanogeafoaa.Pure
open Go.RowKit Go.Proofs.Ytagkaanogeafoaa.PFnExactTakePacer Go.Proofs.YtagkaanogeafoaaW.PrintWords Go.Proofs.YtagkaanogeafoaaW.PrintLast Go.Proofs.YtagkaanogeafoaaW.PrintMore Go.Proofs.YtagkaanogeafoaaOwn
set_option linter.unusedVariables false
set_option linter.unusedSimpArgs false

theorem wj {j n : Nat} (h : j < n) (hn : n ≤ 4611686018427387904) : wrap64 ((j : Int) + 1) = ((j + 1 : Nat) : Int) := by
  unfold wrap64; omega
theorem w64 {x : Int} (h0 : -9223372036854775808 ≤ x) (h1 : x ≤ 9223372036854775807) : wrap64 x = x := by
  unfold wrap64; omega
theorem rdj (l : List Int) (j : Nat) : rd l (j : Int) = l.getD j 0 := rfl
theorem getD_at {α : Type} {l : List α} {j : Nat} (h : j < l.length) (z : α) : l.getD j z = l[j] := by
  rw [List.getD_eq_getElem?_getD, List.getElem?_eq_getElem h]; rfl
theorem Ev.law {g : Nat → Option Bool} (h : Ev g true) : ∃ k, g k = some true := h.rounds
theorem wf_i64 {x : Int} (h : (Lit.int .i64 x).wf = true) : -9223372036854775808 ≤ x ∧ x ≤ 9223372036854775807 := by
  simp only [Lit.wf, IntKind.min, IntKind.max, IntKind.signed, IntKind.bits, Bool.and_eq_true, decide_eq_true_eq, if_true] at h
  omega

theorem l1In_eq (a b c : Int) : spec_l1In.f a b c = some (decide (b ≤ a ∧ a ≤ c)) := by
  unfold spec_l1In.f; by_cases h : b ≤ a <;> simp [h]
theorem within_eq (a b c : Int) : impl_within.f a b c = some (decide (b ≤ a ∧ a ≤ c)) := by
  unfold impl_within.f; by_cases h : b ≤ a <;> simp [h]

theorem isRate_said (a b : Int) : impl_isRate.f a b = spec_l16Said.f a b := by
  unfold impl_isRate.f spec_l16Said.f; simp only [within_eq, l1In_eq]
theorem l16Said_eq (a b : Int) : spec_l16Said.f a b = some (decide ((1 ≤ a ∧ a ≤ 10000) ∧ 0 ≤ b ∧ b ≤ 100000)) := by
  unfold spec_l16Said.f
  simp only [l1In_eq, Option.bind_some, decide_eq_true_eq]
  by_cases h : 1 ≤ a ∧ a ≤ 10000 <;> simp [h]

theorem pacer_same (e s d n : Int) : ∃ b e' s' d', spec_l16Pacer.f e s d n = some (e', s', d', b) ∧ impl_Pacer_take.f e s d n = some (b, e', s', d') := by
  unfold spec_l16Pacer.f impl_Pacer_take.f mx
  by_cases h : d > wrap64 (n + s)
  · rw [if_pos h, if_pos h]; exact ⟨_, _, _, _, rfl, rfl⟩
  · rw [if_neg h, if_neg h]
    by_cases h2 : d < n
    · rw [if_pos h2, if_pos h2]; exact ⟨_, _, _, _, rfl, rfl⟩
    · rw [if_neg h2, if_neg h2]; exact ⟨_, _, _, _, rfl, rfl⟩
theorem TakePacer_both (e s d n : Int) : ∃ r, impl_TakePacer.f e s d n = some r ∧ spec_TakePacer.f e s d n = some r := by
  unfold impl_TakePacer.f spec_TakePacer.f impl_isPacer.f spec_l16Good.f impl_isTime.f
  simp only [isRate_said, l16Said_eq, within_eq, l1In_eq, Option.bind_some, decide_eq_true_eq]
  obtain ⟨b, e', s', d', g1, g2⟩ := pacer_same e s d n
  simp only [g1, g2, Option.bind_some]
  by_cases h1 : (1 ≤ e ∧ e ≤ 10000) ∧ 0 ≤ s ∧ s ≤ 100000
  · by_cases h2 : 0 ≤ d ∧ d ≤ wrap64 (wrap64 (253402300799 + s) + e)
    · by_cases h3 : 0 ≤ n ∧ n ≤ 253402300799
      · simp [h1, h2, h3]
      · simp [h1, h2, h3]
    · simp [h1, h2]
  · simp [h1]

theorem FnExactTakePacer : laws_FnExactTakePacer.Pure := by
  intro x n _ _
  obtain ⟨r, h1, h2⟩ := TakePacer_both x.f0 x.f1 x.f2 n
  unfold laws_FnExactTakePacer.f laws_toPacer.f laws_eqPacer.f
  simp only [Option.bind_some, h1, h2]
  simp

end Go.Proofs.Ytagkaanogeafoaa.Pure
