/- The program's CostOf answers as the reference's CostOf at every two lists of whole numbers (each of at most 1048576 numbers, as the law asks). -/
import Derived.Test.YtagkaanogeafoaaPFnExactCostOfx3
namespace Go.Proofs.Ytagkaanogeafoaa.Pure
open Go.RowKit Go.Proofs.Ytagkaanogeafoaa.PFnExactCostOf Go.Proofs.YtagkaanogeafoaaW.PrintWords Go.Proofs.YtagkaanogeafoaaW.PrintLast Go.Proofs.YtagkaanogeafoaaW.PrintMore Go.Proofs.YtagkaanogeafoaaOwn
set_option linter.unusedVariables false
set_option linter.unusedSimpArgs false

theorem wj {j n : Nat} (h : j < n) (hn : n ≤ 4611686018427387904) : wrap64 ((j : Int) + 1) = ((j + 1 : Nat) : Int) := by
  unfold wrap64; omega
theorem w64 {x : Int} (h0 : -9223372036854775808 ≤ x) (h1 : x ≤ 9223372036854775807) : wrap64 x = x := by
  unfold wrap64; omega
theorem rdj (l : List Int) (j : Nat) : rd l (j : Int) = l.getD j 0 := rfl
theorem getD_at {α : Type} {l : List α} {j : Nat} (h : j < l.length) (z : α) : l.getD j z = l[j] := by
  rw [List.getD_eq_getElem?_getD, List.getElem?_eq_getElem h]; rfl
theorem Ev.law {g : Nat → Option Bool} (h : Ev g true) : ∃ k, g k = some true := h.rounds
theorem wf_i64 {x : Int} (h : (Lit.int .i64 x).wf = true) : -9223372036854775808 ≤ x ∧ x ≤ 9223372036854775807 := by
  simp only [Lit.wf, IntKind.min, IntKind.max, IntKind.signed, IntKind.bits, Bool.and_eq_true, decide_eq_true_eq, if_true] at h
  omega

theorem l1In_eq (a b c : Int) : spec_l1In.f a b c = some (decide (b ≤ a ∧ a ≤ c)) := by
  unfold spec_l1In.f; by_cases h : b ≤ a <;> simp [h]
theorem within_eq (a b c : Int) : impl_within.f a b c = some (decide (b ≤ a ∧ a ≤ c)) := by
  unfold impl_within.f; by_cases h : b ≤ a <;> simp [h]

theorem toIntS_l (l : List Int) (hn : l.length ≤ 1048576) (d : Nat) : ∀ (j : Nat) (x3 : List Int), j + d = l.length → x3.length = l.length → (∀ i, i < j → x3[i]? = l[i]?) →
    Ev (fun k => laws_toIntS.l0 k l x3 (j : Int)) l := by
  induction d with
  | zero =>
    intro j x3 hj h3 he
    refine Ev.step (f := fun _ => some l) (fun k => ?_) (Ev.now _)
    simp only [laws_toIntS.l0]
    rw [if_neg (by omega)]
    refine congrArg some (List.ext_getElem? fun i => ?_)
    by_cases hi : i < j
    · exact he i hi
    · rw [List.getElem?_eq_none (by omega), List.getElem?_eq_none (by omega)]
  | succ d ih =>
    intro j x3 hj h3 he
    refine Ev.step (fun k => ?_) (ih (j + 1) (x3.set j (rd l j)) (by omega) (by simpa using h3) (fun i hi => ?_))
    · simp only [laws_toIntS.l0]
      rw [if_pos (by omega), if_pos (by omega), if_pos (by omega), wj (n := l.length) (by omega) (by omega)]
      rfl
    · rw [List.getElem?_set]
      split
      · rename_i h
        subst h
        rw [if_pos (by omega), rdj, getD_at (by omega), List.getElem?_eq_getElem (by omega)]
      · exact he i (by omega)
theorem toIntS_ev (l : List Int) (hn : l.length ≤ 1048576) : Ev (fun k => laws_toIntS.f k l) l := by
  refine Ev.congr (fun k => ?_) (toIntS_l l hn l.length 0 (List.replicate l.length 0) (by omega) (by simp) (fun i hi => by omega))
  simp only [laws_toIntS.f]
  rw [if_pos (by omega), if_pos (by omega)]
  rfl

theorem eqIntS_l (l : List Int) (hn : l.length ≤ 1048576) (d : Nat) : ∀ (j : Nat), j + d = l.length → Ev (fun k => laws_eqIntS.l0 k l l (j : Int)) true := by
  induction d with
  | zero =>
    intro j hj
    refine Ev.step (f := fun _ => some true) (fun k => ?_) (Ev.now _)
    simp only [laws_eqIntS.l0]
    rw [if_neg (by omega)]
  | succ d ih =>
    intro j hj
    refine Ev.step (fun k => ?_) (ih (j + 1) (by omega))
    simp only [laws_eqIntS.l0]
    rw [if_pos (by omega), if_pos (by omega), if_pos (by omega), if_pos trivial, wj (n := l.length) (by omega) (by omega)]
theorem eqIntS_ev (l : List Int) (hn : l.length ≤ 1048576) : Ev (fun k => laws_eqIntS.f k l l) true := by
  refine Ev.congr (fun k => ?_) (eqIntS_l l hn l.length 0 (by omega))
  simp only [laws_eqIntS.f]
  rw [if_pos trivial]
  rfl

/-- Numbers that are lengths. -/
def lenB (l : List Int) : Bool := decide (1 ≤ (l.length : Int) ∧ (l.length : Int) ≤ 24) && l.all fun n => decide (0 ≤ n ∧ n ≤ 23)
theorem lenB_iff (l : List Int) : lenB l = true ↔ (1 ≤ (l.length : Int) ∧ (l.length : Int) ≤ 24) ∧ ∀ n ∈ l, 0 ≤ n ∧ n ≤ 23 := by
  simp [lenB, List.all_eq_true]
theorem areLengths_eq (l : List Int) : impl_areLengths.f l = some (lenB l) := by
  unfold impl_areLengths.f impl_areAll_int__82.f
  rw [within_eq, allO_all (q := fun n => decide (0 ≤ n ∧ n ≤ 23)) (fun x => by unfold impl_areLengths_1.f; rw [within_eq]; rfl)]
  simp only [Option.bind_some, lenB]
  by_cases h : 1 ≤ (l.length : Int) ∧ (l.length : Int) ≤ 24 <;> simp [h]
theorem l15Lengths_l (l : List Int) (hn : l.length ≤ 1048576) (d : Nat) : ∀ (j : Nat), j + d = l.length → (∀ n ∈ l.take j, 0 ≤ n ∧ n ≤ 23) → Ev (fun k => spec_l15Lengths.l0 k l l (l.length : Int) (j : Int)) (lenB l) := by
  induction d with
  | zero =>
    intro j hj ha
    refine Ev.step (f := fun _ => some (lenB l)) (fun k => ?_) (Ev.now _)
    simp only [spec_l15Lengths.l0]
    rw [if_neg (by omega), l1In_eq]
    simp only [Option.bind_some, Option.some.injEq, lenB]
    rw [List.take_of_length_le (by omega)] at ha
    rw [show (l.all fun n => decide (0 ≤ n ∧ n ≤ 23)) = true from by simpa [List.all_eq_true] using ha, Bool.and_true]
  | succ d ih =>
    intro j hj ha
    have hlt : j < l.length := by omega
    by_cases hx : 0 ≤ l[j] ∧ l[j] ≤ 23
    · refine Ev.step (fun k => ?_) (ih (j + 1) (by omega) (fun n hm => ?_))
      · simp only [spec_l15Lengths.l0]
        rw [if_pos (by omega), if_pos (by omega), if_pos (by omega), l1In_eq, rdj, getD_at hlt]
        simp only [Option.bind_some, decide_eq_true_eq]
        rw [if_pos hx, wj (n := l.length) hlt (by omega)]
      · rw [List.take_succ_eq_append_getElem hlt, List.mem_append] at hm
        rcases hm with hm | hm
        · exact ha n hm
        · rw [List.mem_singleton.1 hm]; exact hx
    · refine Ev.step (f := fun _ => some (lenB l)) (fun k => ?_) (Ev.now _)
      simp only [spec_l15Lengths.l0]
      rw [if_pos (by omega), if_pos (by omega), if_pos (by omega), l1In_eq, rdj, getD_at hlt]
      simp only [Option.bind_some, decide_eq_true_eq]
      rw [if_neg hx]
      refine congrArg some ?_
      symm
      rw [Bool.eq_false_iff]
      intro h
      exact hx ((lenB_iff l).1 h |>.2 _ (List.getElem_mem hlt))
theorem l15Lengths_ev (l : List Int) (hn : l.length ≤ 1048576) : Ev (fun k => spec_l15Lengths.f k l) (lenB l) :=
  l15Lengths_l l hn l.length 0 (by omega) (by simp)

/-- Numbers that are weights. -/
def wtB (l : List Int) : Bool := decide (2 ≤ (l.length : Int) ∧ (l.length : Int) ≤ 24) && l.all fun n => decide (1 ≤ n ∧ n ≤ 100000)
theorem wtB_iff (l : List Int) : wtB l = true ↔ (2 ≤ (l.length : Int) ∧ (l.length : Int) ≤ 24) ∧ ∀ n ∈ l, 1 ≤ n ∧ n ≤ 100000 := by
  simp [wtB, List.all_eq_true]
theorem areWeights_eq (l : List Int) : impl_areWeights.f l = some (wtB l) := by
  unfold impl_areWeights.f impl_areAll_int__83.f
  rw [within_eq, allO_all (q := fun n => decide (1 ≤ n ∧ n ≤ 100000)) (fun x => by unfold impl_areWeights_1.f; rw [within_eq]; rfl)]
  simp only [Option.bind_some, wtB]
  by_cases h : 2 ≤ (l.length : Int) ∧ (l.length : Int) ≤ 24 <;> simp [h]
theorem l15Weights_l (l : List Int) (hn : l.length ≤ 1048576) (d : Nat) : ∀ (j : Nat), j + d = l.length → (∀ n ∈ l.take j, 1 ≤ n ∧ n ≤ 100000) → Ev (fun k => spec_l15Weights.l0 k l l (l.length : Int) (j : Int)) (wtB l) := by
  induction d with
  | zero =>
    intro j hj ha
    refine Ev.step (f := fun _ => some (wtB l)) (fun k => ?_) (Ev.now _)
    simp only [spec_l15Weights.l0]
    rw [if_neg (by omega), l1In_eq]
    simp only [Option.bind_some, Option.some.injEq, wtB]
    rw [List.take_of_length_le (by omega)] at ha
    rw [show (l.all fun n => decide (1 ≤ n ∧ n ≤ 100000)) = true from by simpa [List.all_eq_true] using ha, Bool.and_true]
  | succ d ih =>
    intro j hj ha
    have hlt : j < l.length := by omega
    by_cases hx : 1 ≤ l[j] ∧ l[j] ≤ 100000
    · refine Ev.step (fun k => ?_) (ih (j + 1) (by omega) (fun n hm => ?_))
      · simp only [spec_l15Weights.l0]
        rw [if_pos (by omega), if_pos (by omega), if_pos (by omega), l1In_eq, rdj, getD_at hlt]
        simp only [Option.bind_some, decide_eq_true_eq]
        rw [if_pos hx, wj (n := l.length) hlt (by omega)]
      · rw [List.take_succ_eq_append_getElem hlt, List.mem_append] at hm
        rcases hm with hm | hm
        · exact ha n hm
        · rw [List.mem_singleton.1 hm]; exact hx
    · refine Ev.step (f := fun _ => some (wtB l)) (fun k => ?_) (Ev.now _)
      simp only [spec_l15Weights.l0]
      rw [if_pos (by omega), if_pos (by omega), if_pos (by omega), l1In_eq, rdj, getD_at hlt]
      simp only [Option.bind_some, decide_eq_true_eq]
      rw [if_neg hx]
      refine congrArg some ?_
      symm
      rw [Bool.eq_false_iff]
      intro h
      exact hx ((wtB_iff l).1 h |>.2 _ (List.getElem_mem hlt))
theorem l15Weights_ev (l : List Int) (hn : l.length ≤ 1048576) : Ev (fun k => spec_l15Weights.f k l) (wtB l) :=
  l15Weights_l l hn l.length 0 (by omega) (by simp)

theorem Index_l (l : List Int) (a : Int) (hn : l.length ≤ 1048576) (d : Nat) : ∀ (j : Nat), j + d = l.length → (∀ n ∈ l.take j, n ≠ a) →
    ∃ r, Ev (fun k => slices_Index_int_int.l0 k l a (l.length : Int) (j : Int)) r ∧ (r ≥ 0 ↔ a ∈ l) := by
  induction d with
  | zero =>
    intro j hj ha
    refine ⟨-1, Ev.step (f := fun _ => some (-1)) (fun k => ?_) (Ev.now _), ?_⟩
    · simp only [slices_Index_int_int.l0]
      rw [if_neg (by omega)]
    · rw [List.take_of_length_le (by omega)] at ha
      exact ⟨fun h => by omega, fun h => absurd rfl (ha a h)⟩
  | succ d ih =>
    intro j hj ha
    have hlt : j < l.length := by omega
    by_cases hx : a = l[j]
    · refine ⟨j, Ev.step (f := fun _ => some (j : Int)) (fun k => ?_) (Ev.now _), ?_⟩
      · simp only [slices_Index_int_int.l0]
        rw [if_pos (by omega), if_pos (by omega), if_pos (by omega), rdj, getD_at hlt, if_pos hx]
      · exact ⟨fun _ => hx ▸ List.getElem_mem hlt, fun _ => by omega⟩
    · obtain ⟨r, h1, h2⟩ := ih (j + 1) (by omega) (fun n hm => by
        rw [List.take_succ_eq_append_getElem hlt, List.mem_append] at hm
        rcases hm with hm | hm
        · exact ha n hm
        · rw [List.mem_singleton.1 hm]; exact fun e => hx e.symm)
      refine ⟨r, Ev.step (fun k => ?_) h1, h2⟩
      simp only [slices_Index_int_int.l0]
      rw [if_pos (by omega), if_pos (by omega), if_pos (by omega), rdj, getD_at hlt, if_neg hx, wj (n := l.length) hlt (by omega)]
theorem Contains_ev (l : List Int) (a : Int) (hn : l.length ≤ 1048576) : Ev (fun k => slices_Contains_int_int.f k l a) (decide (a ∈ l)) := by
  obtain ⟨r, h1, h2⟩ := Index_l l a hn l.length 0 (by omega) (by simp)
  unfold slices_Contains_int_int.f
  refine Ev.bind (a := r) h1 (Ev.congr (f := fun _ => some (decide (a ∈ l))) (fun k => ?_) (Ev.now _))
  rw [decide_eq_decide.2 h2]

theorem cost_l (w l : List Int) (hn : w.length ≤ 1048576) (he : l.length = w.length) (h0 : ¬ (0 : Int) ∈ l) (d : Nat) : ∀ (j : Nat) (x : Int), j + d = w.length →
    ∃ r, Ev (fun k => impl_CostOf.l0 k l x w (w.length : Int) (j : Int)) (r, true) ∧ Ev (fun k => spec_CostOf.l0 k l x w (w.length : Int) (j : Int)) (r, true) := by
  induction d with
  | zero =>
    intro j x hj
    refine ⟨x, Ev.step (f := fun _ => some (x, true)) (fun k => ?_) (Ev.now _), Ev.step (f := fun _ => some (x, true)) (fun k => ?_) (Ev.now _)⟩
    · simp only [impl_CostOf.l0]; rw [if_neg (by omega)]
    · simp only [spec_CostOf.l0]; rw [if_neg (by omega)]
  | succ d ih =>
    intro j x hj
    have hlt : j < l.length := by omega
    obtain ⟨r, h1, h2⟩ := ih (j + 1) (wrap64 (x + wrap64 (rd w j * rd l j))) (by omega)
    refine ⟨r, Ev.step (fun k => ?_) h1, Ev.step (fun k => ?_) h2⟩
    · simp only [impl_CostOf.l0]
      rw [if_pos (by omega), if_pos (by omega), if_pos (by omega), if_pos (by omega), wj (n := w.length) (by omega) (by omega)]
    · simp only [spec_CostOf.l0]
      rw [if_pos (by omega), if_pos (by omega), if_pos (by omega), if_pos (by omega), if_neg, wj (n := w.length) (by omega) (by omega)]
      rw [rdj, getD_at hlt]
      exact fun e => h0 (e ▸ List.getElem_mem hlt)
theorem cost_no (w l : List Int) (hn : w.length ≤ 1048576) (he : l.length = w.length) (d : Nat) : ∀ (j : Nat) (x : Int), j + d = w.length → (0 : Int) ∈ l.drop j →
    Ev (fun k => spec_CostOf.l0 k l x w (w.length : Int) (j : Int)) (0, false) := by
  induction d with
  | zero =>
    intro j x hj h0
    rw [List.drop_eq_nil_of_le (by omega)] at h0
    cases h0
  | succ d ih =>
    intro j x hj h0
    have hlt : j < l.length := by omega
    by_cases hz : l[j] = 0
    · refine Ev.step (f := fun _ => some (0, false)) (fun k => ?_) (Ev.now _)
      simp only [spec_CostOf.l0]
      rw [if_pos (by omega), if_pos (by omega), if_pos (by omega), if_pos (by omega), if_pos (by rw [rdj, getD_at hlt]; exact hz)]
    · rw [List.drop_eq_getElem_cons hlt] at h0
      rcases List.mem_cons.1 h0 with h0 | h0
      · exact absurd h0.symm hz
      · refine Ev.step (fun k => ?_) (ih (j + 1) (wrap64 (x + wrap64 (rd w j * rd l j))) (by omega) h0)
        simp only [spec_CostOf.l0]
        rw [if_pos (by omega), if_pos (by omega), if_pos (by omega), if_pos (by omega), if_neg (by rw [rdj, getD_at hlt]; exact hz), wj (n := w.length) (by omega) (by omega)]
theorem CostOf_both (w l : List Int) (hn : w.length ≤ 1048576) (hm : l.length ≤ 1048576) : ∃ r, Ev (fun k => impl_CostOf.f k w l) r ∧ Ev (fun k => spec_CostOf.f k w l) r := by
  have ij : ∀ b : Bool, b = true → Ev (fun k => impl_CostOf.j0 k w l b) (0, false) := fun b hb =>
    Ev.step (f := fun _ => some (0, false)) (fun k => by simp only [impl_CostOf.j0]; rw [if_pos hb]) (Ev.now _)
  have sj : ∀ b : Bool, b = true → Ev (fun k => spec_CostOf.j0 k w l b) (0, false) := fun b hb =>
    Ev.step (f := fun _ => some (0, false)) (fun k => by simp only [spec_CostOf.j0]; rw [if_pos hb]) (Ev.now _)
  unfold impl_CostOf.f spec_CostOf.f
  simp only [areWeights_eq, areLengths_eq, Option.bind_some]
  cases hw : wtB w with
  | false =>
    refine ⟨(0, false), by simpa using ij true rfl, Ev.bind (by have := l15Weights_ev w hn; rwa [hw] at this) ?_⟩
    simpa using sj true rfl
  | true =>
    cases hl : lenB l with
    | false =>
      refine ⟨(0, false), by simpa using ij true rfl, Ev.bind (by have := l15Weights_ev w hn; rwa [hw] at this) ?_⟩
      simp only [if_true]
      refine Ev.bind (by have := l15Lengths_ev l hm; rwa [hl] at this) ?_
      simpa using sj true rfl
    | true =>
      simp only [if_true]
      have hs : ∀ {r}, Ev (fun k => spec_CostOf.j0 k w l ((l.length : Int) != (w.length : Int))) r → Ev (fun k => (spec_l15Weights.f k w).bind fun t114 => if t114 = true then (spec_l15Lengths.f k l).bind fun t115 => if t115 = true then spec_CostOf.j0 k w l ((l.length : Int) != (w.length : Int)) else spec_CostOf.j0 k w l true else spec_CostOf.j0 k w l true) r := by
        intro r hr
        refine Ev.bind (by have := l15Weights_ev w hn; rwa [hw] at this) ?_
        simp only [if_true]
        refine Ev.bind (by have := l15Lengths_ev l hm; rwa [hl] at this) ?_
        simpa using hr
      by_cases he : (l.length : Int) = (w.length : Int)
      · have he' : l.length = w.length := by omega
        simp only [if_pos he]
        by_cases h0 : (0 : Int) ∈ l
        · refine ⟨(0, false), Ev.bind (Contains_ev l 0 hm) (ij _ (by simpa using h0)), hs ?_⟩
          refine Ev.step (f := fun k => spec_CostOf.l0 k l 0 w (w.length : Int) 0) (fun k => ?_) (cost_no w l hn he' w.length 0 0 (by omega) h0)
          simp only [spec_CostOf.j0]
          rw [if_neg (by simp [he])]
        · obtain ⟨r, h1, h2⟩ := cost_l w l hn he' h0 w.length 0 0 (by omega)
          refine ⟨(r, true), Ev.bind (Contains_ev l 0 hm) ?_, hs ?_⟩
          · refine Ev.step (f := fun k => impl_CostOf.l0 k l 0 w (w.length : Int) 0) (fun k => ?_) h1
            simp only [impl_CostOf.j0]
            rw [if_neg (by simpa using h0)]
          · refine Ev.step (f := fun k => spec_CostOf.l0 k l 0 w (w.length : Int) 0) (fun k => ?_) h2
            simp only [spec_CostOf.j0]
            rw [if_neg (by simp [he])]
      · simp only [if_neg he]
        refine ⟨(0, false), ij true rfl, hs (sj _ (by simpa using he))⟩

theorem FnExactCostOf : laws_FnExactCostOf.Pure := by
  intro w l _ _ _ _ _ _
  refine Ev.law ?_
  unfold laws_FnExactCostOf.f
  by_cases hn : (w.length : Int) > 1048576
  · exact Ev.congr (fun k => by rw [if_pos hn]) (Ev.now _)
  simp only [if_neg hn]
  by_cases hm : (l.length : Int) > 1048576
  · exact Ev.congr (fun k => by rw [if_pos hm]) (Ev.now _)
  have hn' : w.length ≤ 1048576 := by omega
  have hm' : l.length ≤ 1048576 := by omega
  obtain ⟨r, h1, h2⟩ := CostOf_both w l hn' hm'
  simp only [if_neg hm]
  refine Ev.bind (toIntS_ev w hn') (Ev.bind (toIntS_ev l hm') (Ev.bind h2 (Ev.bind (toIntS_ev w hn') (Ev.bind (toIntS_ev l hm') (Ev.bind h1 ?_)))))
  simp only [if_true, bne_self_eq_false]
  refine Ev.step (f := fun k => (laws_toIntS.f k w).bind fun t150 => (laws_eqIntS.f k w t150).bind fun t153 => if t153 = true then (laws_toIntS.f k l).bind fun t154 => (laws_eqIntS.f k l t154).bind fun t157 => if t157 = true then some true else some false else some false) (fun k => by simp [laws_FnExactCostOf.j0]) ?_
  refine Ev.bind (toIntS_ev w hn') (Ev.bind (eqIntS_ev w hn') ?_)
  simp only [if_true]
  exact Ev.bind (toIntS_ev l hm') (Ev.bind (eqIntS_ev l hm') (Ev.now _))

end Go.Proofs.Ytagkaanogeafoaa.Pure
