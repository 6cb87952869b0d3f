/- The two programs' buckets answer alike. -/
import Derived.Test.YtagkaanogeafoaaPFnExactTakeBucketx1
namespace Go.Proofs.Ytagkaanogeafoaa.Pure
open Go.RowKit Go.Proofs.Ytagkaanogeafoaa.PFnExactTakeBucket Go.Proofs.YtagkaanogeafoaaW.PrintWords Go.Proofs.YtagkaanogeafoaaW.PrintLast Go.Proofs.YtagkaanogeafoaaW.PrintMore Go.Proofs.YtagkaanogeafoaaOwn
set_option linter.unusedVariables false
set_option linter.unusedSimpArgs false

theorem wj {j n : Nat} (h : j < n) (hn : n ≤ 4611686018427387904) : wrap64 ((j : Int) + 1) = ((j + 1 : Nat) : Int) := by
  unfold wrap64; omega
theorem w64 {x : Int} (h0 : -9223372036854775808 ≤ x) (h1 : x ≤ 9223372036854775807) : wrap64 x = x := by
  unfold wrap64; omega
theorem rdj (l : List Int) (j : Nat) : rd l (j : Int) = l.getD j 0 := rfl
theorem getD_at {α : Type} {l : List α} {j : Nat} (h : j < l.length) (z : α) : l.getD j z = l[j] := by
  rw [List.getD_eq_getElem?_getD, List.getElem?_eq_getElem h]; rfl
theorem Ev.law {g : Nat → Option Bool} (h : Ev g true) : ∃ k, g k = some true := h.rounds
theorem wf_i64 {x : Int} (h : (Lit.int .i64 x).wf = true) : -9223372036854775808 ≤ x ∧ x ≤ 9223372036854775807 := by
  simp only [Lit.wf, IntKind.min, IntKind.max, IntKind.signed, IntKind.bits, Bool.and_eq_true, decide_eq_true_eq, if_true] at h
  omega

theorem l1In_eq (a b c : Int) : spec_l1In.f a b c = some (decide (b ≤ a ∧ a ≤ c)) := by
  unfold spec_l1In.f; by_cases h : b ≤ a <;> simp [h]
theorem within_eq (a b c : Int) : impl_within.f a b c = some (decide (b ≤ a ∧ a ≤ c)) := by
  unfold impl_within.f; by_cases h : b ≤ a <;> simp [h]

theorem isRate_said (a b : Int) : impl_isRate.f a b = spec_l16Said.f a b := by
  unfold impl_isRate.f spec_l16Said.f; simp only [within_eq, l1In_eq]
theorem l16Said_eq (a b : Int) : spec_l16Said.f a b = some (decide ((1 ≤ a ∧ a ≤ 10000) ∧ 0 ≤ b ∧ b ≤ 100000)) := by
  unfold spec_l16Said.f
  simp only [l1In_eq, Option.bind_some, decide_eq_true_eq]
  by_cases h : 1 ≤ a ∧ a ≤ 10000 <;> simp [h]

theorem bucket_same (e s l t n : Int) (hs : 0 ≤ s) : ∃ b e' s' l' t', spec_l16Bucket.f e s l t n = some (e', s', l', t', b) ∧ impl_Bucket_take.f e s l t n = some (b, e', s', l', t') := by
  unfold spec_l16Bucket.f impl_Bucket_take.f mx
  generalize wrap64 (l - wrap64 (n - t)) = x
  by_cases h : x < 0
  · rw [if_pos h, if_pos h, if_neg (by omega), if_neg (by omega)]
    exact ⟨_, _, _, _, _, rfl, by rw [Int.zero_add]⟩
  · rw [if_neg h, if_neg h]
    by_cases h2 : x > s
    · rw [if_pos h2, if_pos h2]; exact ⟨_, _, _, _, _, rfl, rfl⟩
    · rw [if_neg h2, if_neg h2]; exact ⟨_, _, _, _, _, rfl, rfl⟩
theorem TakeBucket_both (e s l t n : Int) : ∃ r, impl_TakeBucket.f e s l t n = some r ∧ spec_TakeBucket.f e s l t n = some r := by
  unfold impl_TakeBucket.f spec_TakeBucket.f impl_isBucket.f impl_isTime.f
  simp only [isRate_said, l16Said_eq, within_eq, l1In_eq, Option.bind_some, decide_eq_true_eq]
  by_cases h1 : (1 ≤ e ∧ e ≤ 10000) ∧ 0 ≤ s ∧ s ≤ 100000
  · by_cases h2 : 0 ≤ l ∧ l ≤ wrap64 (s + e)
    · by_cases h3 : 0 ≤ t ∧ t ≤ 253402300799
      · by_cases h4 : t ≤ n ∧ n ≤ 253402300799
        · obtain ⟨b, e', s', l', t', g1, g2⟩ := bucket_same e s l t n h1.2.1
          simp [h1, h2, h3, h4, g1, g2]
        · simp [h1, h2, h3, h4]
      · simp [h1, h2, h3]
    · simp [h1, h2]
  · simp [h1]

theorem FnExactTakeBucket : laws_FnExactTakeBucket.Pure := by
  intro x n _ _
  obtain ⟨r, h1, h2⟩ := TakeBucket_both x.f0 x.f1 x.f2 x.f3 n
  unfold laws_FnExactTakeBucket.f laws_toBucket.f laws_eqBucket.f
  simp only [Option.bind_some, h1, h2]
  simp

end Go.Proofs.Ytagkaanogeafoaa.Pure
