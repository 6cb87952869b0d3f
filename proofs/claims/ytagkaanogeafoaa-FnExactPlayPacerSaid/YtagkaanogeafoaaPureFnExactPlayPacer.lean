/- The two programs' pacers answer the same times alike. -/
import Derived.Test.YtagkaanogeafoaaPFnExactPlayPacerx4
namespace Go.Proofs.Ytagkaanogeafoaa.Pure
open Go.RowKit Go.Proofs.Ytagkaanogeafoaa.PFnExactPlayPacer Go.Proofs.YtagkaanogeafoaaW.PrintWords Go.Proofs.YtagkaanogeafoaaW.PrintLast Go.Proofs.YtagkaanogeafoaaW.PrintMore Go.Proofs.YtagkaanogeafoaaOwn
set_option linter.unusedVariables false
set_option linter.unusedSimpArgs false

theorem wj {j n : Nat} (h : j < n) (hn : n ≤ 4611686018427387904) : wrap64 ((j : Int) + 1) = ((j + 1 : Nat) : Int) := by
  unfold wrap64; omega
theorem w64 {x : Int} (h0 : -9223372036854775808 ≤ x) (h1 : x ≤ 9223372036854775807) : wrap64 x = x := by
  unfold wrap64; omega
theorem rdj (l : List Int) (j : Nat) : rd l (j : Int) = l.getD j 0 := rfl
theorem getD_at {α : Type} {l : List α} {j : Nat} (h : j < l.length) (z : α) : l.getD j z = l[j] := by
  rw [List.getD_eq_getElem?_getD, List.getElem?_eq_getElem h]; rfl
theorem Ev.law {g : Nat → Option Bool} (h : Ev g true) : ∃ k, g k = some true := h.rounds
theorem wf_i64 {x : Int} (h : (Lit.int .i64 x).wf = true) : -9223372036854775808 ≤ x ∧ x ≤ 9223372036854775807 := by
  simp only [Lit.wf, IntKind.min, IntKind.max, IntKind.signed, IntKind.bits, Bool.and_eq_true, decide_eq_true_eq, if_true] at h
  omega

theorem l1In_eq (a b c : Int) : spec_l1In.f a b c = some (decide (b ≤ a ∧ a ≤ c)) := by
  unfold spec_l1In.f; by_cases h : b ≤ a <;> simp [h]
theorem within_eq (a b c : Int) : impl_within.f a b c = some (decide (b ≤ a ∧ a ≤ c)) := by
  unfold impl_within.f; by_cases h : b ≤ a <;> simp [h]

theorem toIntS_l (l : List Int) (hn : l.length ≤ 1048576) (d : Nat) : ∀ (j : Nat) (x3 : List Int), j + d = l.length → x3.length = l.length → (∀ i, i < j → x3[i]? = l[i]?) →
    Ev (fun k => laws_toIntS.l0 k l x3 (j : Int)) l := by
  induction d with
  | zero =>
    intro j x3 hj h3 he
    refine Ev.step (f := fun _ => some l) (fun k => ?_) (Ev.now _)
    simp only [laws_toIntS.l0]
    rw [if_neg (by omega)]
    refine congrArg some (List.ext_getElem? fun i => ?_)
    by_cases hi : i < j
    · exact he i hi
    · rw [List.getElem?_eq_none (by omega), List.getElem?_eq_none (by omega)]
  | succ d ih =>
    intro j x3 hj h3 he
    refine Ev.step (fun k => ?_) (ih (j + 1) (x3.set j (rd l j)) (by omega) (by simpa using h3) (fun i hi => ?_))
    · simp only [laws_toIntS.l0]
      rw [if_pos (by omega), if_pos (by omega), if_pos (by omega), wj (n := l.length) (by omega) (by omega)]
      rfl
    · rw [List.getElem?_set]
      split
      · rename_i h
        subst h
        rw [if_pos (by omega), rdj, getD_at (by omega), List.getElem?_eq_getElem (by omega)]
      · exact he i (by omega)
theorem toIntS_ev (l : List Int) (hn : l.length ≤ 1048576) : Ev (fun k => laws_toIntS.f k l) l := by
  refine Ev.congr (fun k => ?_) (toIntS_l l hn l.length 0 (List.replicate l.length 0) (by omega) (by simp) (fun i hi => by omega))
  simp only [laws_toIntS.f]
  rw [if_pos (by omega), if_pos (by omega)]
  rfl

theorem eqIntS_l (l : List Int) (hn : l.length ≤ 1048576) (d : Nat) : ∀ (j : Nat), j + d = l.length → Ev (fun k => laws_eqIntS.l0 k l l (j : Int)) true := by
  induction d with
  | zero =>
    intro j hj
    refine Ev.step (f := fun _ => some true) (fun k => ?_) (Ev.now _)
    simp only [laws_eqIntS.l0]
    rw [if_neg (by omega)]
  | succ d ih =>
    intro j hj
    refine Ev.step (fun k => ?_) (ih (j + 1) (by omega))
    simp only [laws_eqIntS.l0]
    rw [if_pos (by omega), if_pos (by omega), if_pos (by omega), if_pos trivial, wj (n := l.length) (by omega) (by omega)]
theorem eqIntS_ev (l : List Int) (hn : l.length ≤ 1048576) : Ev (fun k => laws_eqIntS.f k l l) true := by
  refine Ev.congr (fun k => ?_) (eqIntS_l l hn l.length 0 (by omega))
  simp only [laws_eqIntS.f]
  rw [if_pos trivial]
  rfl

theorem isRate_said (a b : Int) : impl_isRate.f a b = spec_l16Said.f a b := by
  unfold impl_isRate.f spec_l16Said.f; simp only [within_eq, l1In_eq]
theorem l16Said_eq (a b : Int) : spec_l16Said.f a b = some (decide ((1 ≤ a ∧ a ≤ 10000) ∧ 0 ≤ b ∧ b ≤ 100000)) := by
  unfold spec_l16Said.f
  simp only [l1In_eq, Option.bind_some, decide_eq_true_eq]
  by_cases h : 1 ≤ a ∧ a ≤ 10000 <;> simp [h]

theorem markIntS_l {n : Nat} (hn : n ≤ 1048576) (d : Nat) : ∀ (l : List Int) (c j : Nat), l.length = n → j + d = n → c ≤ 2097152 + j → ∃ l', Ev (fun k => laws_markIntS.l0 k l (c : Int) (j : Int)) (((c + d : Nat) : Int), l') := by
  induction d with
  | zero =>
    intro l c j hl hj hc
    refine ⟨l, Ev.step (f := fun _ => some (((c : Nat) : Int), l)) (fun k => ?_) (Ev.now _)⟩
    simp only [laws_markIntS.l0]; rw [if_neg (by omega)]
  | succ d ih =>
    intro l c j hl hj hc
    obtain ⟨l', h⟩ := ih (l.set j (c : Int)) (c + 1) (j + 1) (by simpa using hl) (by omega) (by omega)
    rw [show c + 1 + d = c + (d + 1) from by omega] at h
    refine ⟨l', Ev.step (fun k => ?_) h⟩
    simp only [laws_markIntS.l0]
    rw [if_pos (by omega), if_pos (by omega), w64 (x := (c : Int) + 1) (by omega) (by omega), wj (j := j) (n := n) (by omega) (by omega)]
    rfl
theorem markIntS_ev (l : List Int) (hn : l.length ≤ 1048576) : ∃ l', Ev (fun k => laws_markIntS.f k l 1) (((1 + l.length : Nat) : Int), l') := by
  obtain ⟨l', h⟩ := markIntS_l (n := l.length) hn l.length l 1 0 rfl (by omega) (by omega)
  exact ⟨l', h⟩

theorem eqBoolS_l (l : List Bool) (hn : l.length ≤ 1048576) (d : Nat) : ∀ (j : Nat), j + d = l.length → Ev (fun k => laws_eqBoolS.l0 k l l (j : Int)) true := by
  induction d with
  | zero =>
    intro j hj
    refine Ev.step (f := fun _ => some true) (fun k => ?_) (Ev.now _)
    simp only [laws_eqBoolS.l0]
    rw [if_neg (by omega)]
  | succ d ih =>
    intro j hj
    refine Ev.step (fun k => ?_) (ih (j + 1) (by omega))
    simp only [laws_eqBoolS.l0]
    rw [if_pos (by omega), if_pos (by omega), if_pos (by omega), if_neg (by simp), wj (n := l.length) (by omega) (by omega)]
theorem eqBoolS_ev (l : List Bool) (hn : l.length ≤ 1048576) : Ev (fun k => laws_eqBoolS.f k l l) true := by
  refine Ev.congr (fun k => ?_) (eqBoolS_l l hn l.length 0 (by omega))
  simp only [laws_eqBoolS.f]
  rw [if_pos trivial]
  rfl
def mbl (n : Nat) : Bool := (Int.tmod (n : Int) 3) == 0
theorem markBoolS_l {n : Nat} (hn : n ≤ 1048576) (d : Nat) : ∀ (l : List Bool) (c j : Nat), l.length = n → j + d = n → c ≤ 2097152 + j →
    ∃ l', Ev (fun k => laws_markBoolS.l0 k l (c : Int) (j : Int)) (((c + d : Nat) : Int), l') ∧ l'.length = n ∧ (∀ i, i < j → l'[i]? = l[i]?) ∧ ∀ i, j ≤ i → i < n → l'[i]? = some (mbl (c + (i - j))) := by
  induction d with
  | zero =>
    intro l c j hl hj hc
    refine ⟨l, Ev.step (f := fun _ => some (((c : Nat) : Int), l)) (fun k => ?_) (Ev.now _), hl, fun _ _ => rfl, fun i h1 h2 => by omega⟩
    simp only [laws_markBoolS.l0]; rw [if_neg (by omega)]
  | succ d ih =>
    intro l c j hl hj hc
    obtain ⟨l', h, h1, h2, h3⟩ := ih (l.set j (mbl c)) (c + 1) (j + 1) (by simpa using hl) (by omega) (by omega)
    rw [show c + 1 + d = c + (d + 1) from by omega] at h
    refine ⟨l', Ev.step (fun k => ?_) h, h1, fun i hi => ?_, fun i hi hi' => ?_⟩
    · simp only [laws_markBoolS.l0]
      rw [if_pos (by omega), if_pos (by omega), w64 (x := (c : Int) + 1) (by omega) (by omega), wj (j := j) (n := n) (by omega) (by omega)]
      rfl
    · rw [h2 i (by omega), List.getElem?_set_ne (by omega)]
    · by_cases e : i = j
      · subst e
        rw [h2 i (by omega), List.getElem?_set_self (by omega)]
        simp
      · rw [h3 i (by omega) hi', show c + 1 + (i - (j + 1)) = c + (i - j) from by omega]
theorem heldBoolS_l (l : List Bool) (hn : l.length ≤ 1048576) (b : Nat) (hb : b ≤ 2097152) (hl : ∀ i, i < l.length → l[i]? = some (mbl (b + i))) (d : Nat) : ∀ (j : Nat), j + d = l.length →
    Ev (fun k => laws_heldBoolS.l0 k l ((b + j : Nat) : Int) (j : Int)) ((b + l.length : Nat) : Int) := by
  induction d with
  | zero =>
    intro j hj
    obtain rfl : j = l.length := by omega
    refine Ev.step (f := fun _ => some ((b + l.length : Nat) : Int)) (fun k => ?_) (Ev.now _)
    simp only [laws_heldBoolS.l0]; rw [if_neg (by omega)]
  | succ d ih =>
    intro j hj
    have hlt : j < l.length := by omega
    refine Ev.step (fun k => ?_) (ih (j + 1) (by omega))
    simp only [laws_heldBoolS.l0]
    rw [if_pos (by omega), if_pos (by omega), show rdOf false l (j : Int) = mbl (b + j) from by
      unfold rdOf
      rw [Int.toNat_natCast, getD_at hlt]
      have := hl j hlt
      rw [List.getElem?_eq_getElem hlt] at this
      exact Option.some.inj this]
    rw [if_neg (by simp [mbl]), w64 (x := ((b + j : Nat) : Int) + 1) (by omega) (by omega), wj (j := j) (n := l.length) hlt (by omega)]
    rfl
/-- What is marked is held. -/
theorem markBool_both (l : List Bool) (hn : l.length ≤ 1048576) : ∃ l', Ev (fun k => laws_markBoolS.f k l 1) (((1 + l.length : Nat) : Int), l') ∧ Ev (fun k => laws_heldBoolS.f k l' 1) ((1 + l.length : Nat) : Int) := by
  obtain ⟨l', h, h1, _, h3⟩ := markBoolS_l (n := l.length) hn l.length l 1 0 rfl (by omega) (by omega)
  refine ⟨l', h, ?_⟩
  have := heldBoolS_l l' (by omega) 1 (by omega) (fun i hi => by rw [h3 i (by omega) (by omega)]; rfl) l'.length 0 (by omega)
  rw [h1] at this
  exact this

/-- Times in order. -/
def Good (l : List Int) : Prop := (∀ n ∈ l, 0 ≤ n ∧ n ≤ 253402300799) ∧ ∀ i, i + 1 < l.length → l.getD i 0 ≤ l.getD (i + 1) 0
theorem l16Times_l (l : List Int) (hn : l.length ≤ 1048576) (d : Nat) : ∀ (j : Nat), j + d = l.length → (∀ n ∈ l.take j, 0 ≤ n ∧ n ≤ 253402300799) → (∀ i, i + 1 < j → l.getD i 0 ≤ l.getD (i + 1) 0) →
    (Good l → Ev (fun k => spec_l16Times.l0 k l l (l.length : Int) (j : Int)) (decide ((l.length : Int) ≤ 120))) ∧ (¬ Good l → Ev (fun k => spec_l16Times.l0 k l l (l.length : Int) (j : Int)) false) := by
  induction d with
  | zero =>
    intro j hj h1 h2
    rw [List.take_of_length_le (by omega)] at h1
    obtain rfl : j = l.length := by omega
    have hg : Good l := ⟨h1, h2⟩
    refine ⟨fun _ => Ev.step (f := fun _ => some (decide ((l.length : Int) ≤ 120))) (fun k => ?_) (Ev.now _), fun h => absurd hg h⟩
    simp only [spec_l16Times.l0]
    rw [if_neg (by omega)]
  | succ d ih =>
    intro j hj h1 h2
    have hlt : j < l.length := by omega
    by_cases hx : 0 ≤ l[j] ∧ l[j] ≤ 253402300799
    · by_cases hs : j = 0 ∨ l.getD (j - 1) 0 ≤ l.getD j 0
      · obtain ⟨i1, i2⟩ := ih (j + 1) (by omega) (fun n hm => by
          rw [List.take_succ_eq_append_getElem hlt, List.mem_append] at hm
          rcases hm with hm | hm
          · exact h1 n hm
          · rw [List.mem_singleton.1 hm]; exact hx) (fun i hi => by
          by_cases e : i + 1 < j
          · exact h2 i e
          · obtain rfl : j = i + 1 := by omega
            rcases hs with hs | hs
            · omega
            · simpa using hs)
        have step : ∀ k, spec_l16Times.l0 (k + 1) l l (l.length : Int) (j : Int) = spec_l16Times.l0 k l l (l.length : Int) ((j + 1 : Nat) : Int) := by
          intro k
          simp only [spec_l16Times.l0]
          rw [if_pos (by omega), if_pos (by omega), if_pos (by omega), l1In_eq, rdj, getD_at hlt]
          simp only [Option.bind_some, decide_eq_true_eq]
          rw [if_pos hx, wj (n := l.length) hlt (by omega)]
          by_cases h0 : j = 0
          · subst h0; rw [if_neg (by omega)]
          · rw [if_pos (by omega), w64 (x := (j : Int) - 1) (by omega) (by omega), if_pos (by omega), if_pos (by omega), show (j : Int) - 1 = ((j - 1 : Nat) : Int) from by omega, rdj, if_neg]
            rcases hs with hs | hs
            · omega
            · rw [getD_at hlt] at hs; omega
        exact ⟨fun g => Ev.step step (i1 g), fun g => Ev.step step (i2 g)⟩
      · have hng : ¬ Good l := fun g => hs (.inr (by have := g.2 (j - 1) (by omega); rwa [show j - 1 + 1 = j from by omega] at this))
        refine ⟨fun g => absurd g hng, fun _ => Ev.step (f := fun _ => some false) (fun k => ?_) (Ev.now _)⟩
        have h0 : j ≠ 0 := fun e => hs (.inl e)
        have hs2 : ¬ l.getD (j - 1) 0 ≤ l.getD j 0 := fun e => hs (.inr e)
        simp only [spec_l16Times.l0]
        rw [if_pos (by omega), if_pos (by omega), if_pos (by omega), l1In_eq, rdj, getD_at hlt]
        simp only [Option.bind_some, decide_eq_true_eq]
        rw [if_pos hx, if_pos (by omega), w64 (x := (j : Int) - 1) (by omega) (by omega), if_pos (by omega), if_pos (by omega), show (j : Int) - 1 = ((j - 1 : Nat) : Int) from by omega, rdj, if_pos]
        rw [getD_at hlt] at hs2; omega
    · have hng : ¬ Good l := fun g => hx (g.1 _ (List.getElem_mem hlt))
      refine ⟨fun g => absurd g hng, fun _ => Ev.step (f := fun _ => some false) (fun k => ?_) (Ev.now _)⟩
      simp only [spec_l16Times.l0]
      rw [if_pos (by omega), if_pos (by omega), if_pos (by omega), l1In_eq, rdj, getD_at hlt]
      simp only [Option.bind_some, decide_eq_true_eq]
      rw [if_neg hx]
theorem l16Times_ev (l : List Int) (hn : l.length ≤ 1048576) : (Good l → Ev (fun k => spec_l16Times.f k l) (decide ((l.length : Int) ≤ 120))) ∧ (¬ Good l → Ev (fun k => spec_l16Times.f k l) false) :=
  l16Times_l l hn l.length 0 (by omega) (by simp) (fun i hi => by omega)
theorem Less_eq (a b : Int) : cmp_Less_int.f a b = some (decide (a < b)) := by
  unfold cmp_Less_int.f cmp_isNaN_int.f; simp
theorem IsSorted_l (l : List Int) (hn : l.length ≤ 1048576) : ∀ (j : Nat), j < l.length ∨ l.length = 0 ∧ j = 0 → (∀ i, j ≤ i → i + 1 < l.length → l.getD i 0 ≤ l.getD (i + 1) 0) →
    ((∀ i, i + 1 < l.length → l.getD i 0 ≤ l.getD (i + 1) 0) → Ev (fun k => slices_IsSorted_int_int.l0 k l (j : Int)) true) ∧ (¬ (∀ i, i + 1 < l.length → l.getD i 0 ≤ l.getD (i + 1) 0) → Ev (fun k => slices_IsSorted_int_int.l0 k l (j : Int)) false)
  | 0, _, h2 => by
    refine ⟨fun _ => Ev.step (f := fun _ => some true) (fun k => ?_) (Ev.now _), fun g => absurd (fun i hi => h2 i (Nat.zero_le _) hi) g⟩
    simp only [slices_IsSorted_int_int.l0]
    rw [if_neg (by omega)]
  | j + 1, h1, h2 => by
    have hlt : j + 1 < l.length := by omega
    have e : wrap64 (((j + 1 : Nat) : Int) - 1) = (j : Int) := by rw [w64 (by omega) (by omega)]; omega
    by_cases hs : l.getD j 0 ≤ l.getD (j + 1) 0
    · obtain ⟨i1, i2⟩ := IsSorted_l l hn j (.inl (by omega)) (fun i hi hi2 => by
        by_cases e : i = j
        · subst e; exact hs
        · exact h2 i (by omega) hi2)
      have step : ∀ k, slices_IsSorted_int_int.l0 (k + 1) l ((j + 1 : Nat) : Int) = slices_IsSorted_int_int.l0 k l (j : Int) := by
        intro k
        simp only [slices_IsSorted_int_int.l0]
        rw [if_pos (by omega), if_pos (by omega), if_pos (by omega), e, if_pos (by omega), if_pos (by omega), Less_eq, rdj, rdj]
        simp only [Option.bind_some, decide_eq_true_eq]
        rw [if_neg (by omega)]
      exact ⟨fun g => Ev.step step (i1 g), fun g => Ev.step step (i2 g)⟩
    · refine ⟨fun g => absurd (g j hlt) hs, fun _ => Ev.step (f := fun _ => some false) (fun k => ?_) (Ev.now _)⟩
      simp only [slices_IsSorted_int_int.l0]
      rw [if_pos (by omega), if_pos (by omega), if_pos (by omega), e, if_pos (by omega), if_pos (by omega), Less_eq, rdj, rdj]
      simp only [Option.bind_some, decide_eq_true_eq]
      rw [if_pos (by omega)]
theorem IsSorted_ev (l : List Int) (hn : l.length ≤ 1048576) : ((∀ i, i + 1 < l.length → l.getD i 0 ≤ l.getD (i + 1) 0) → Ev (fun k => slices_IsSorted_int_int.f k l) true) ∧ (¬ (∀ i, i + 1 < l.length → l.getD i 0 ≤ l.getD (i + 1) 0) → Ev (fun k => slices_IsSorted_int_int.f k l) false) := by
  by_cases h0 : l.length = 0
  · refine ⟨fun _ => Ev.step (f := fun _ => some true) (fun k => ?_) (Ev.now _), fun g => absurd (fun i hi => by omega) g⟩
    simp only [slices_IsSorted_int_int.f, slices_IsSorted_int_int.l0, h0]
    rw [if_neg (by rw [w64 (by omega) (by omega)]; omega)]
  · have := IsSorted_l l hn (l.length - 1) (.inl (by omega)) (fun i hi hi2 => by omega)
    unfold slices_IsSorted_int_int.f
    rw [show wrap64 ((l.length : Int) - 1) = ((l.length - 1 : Nat) : Int) from by rw [w64 (by omega) (by omega)]; omega]
    exact this
theorem areTimes_eq (l : List Int) : impl_areAll_int__58.f l = some (l.all fun n => decide (0 ≤ n ∧ n ≤ 253402300799)) :=
  allO_all (fun x => by unfold impl_isTime.f; rw [within_eq]; rfl) l

theorem pacer_keeps (e s d n : Int) : ∃ b d', spec_l16Pacer.f e s d n = some (e, s, d', b) ∧ impl_Pacer_take.f e s d n = some (b, e, s, d') := by
  unfold spec_l16Pacer.f impl_Pacer_take.f mx
  by_cases h : d > wrap64 (n + s)
  · rw [if_pos h, if_pos h]; exact ⟨_, _, rfl, rfl⟩
  · rw [if_neg h, if_neg h]
    by_cases h2 : d < n
    · rw [if_pos h2, if_pos h2]; exact ⟨_, _, rfl, rfl⟩
    · rw [if_neg h2, if_neg h2]; exact ⟨_, _, rfl, rfl⟩
theorem playp_l (e s : Int) (hs : 0 ≤ s) (ts : List Int) (hn : ts.length ≤ 120) (d : Nat) : ∀ (j : Nat) (out : List Bool) (l : Int), j + d = ts.length → out.length = j →
    ∃ r l', r.length = ts.length ∧ Ev (fun k => spec_PlayPacer.l0 k out ts (ts.length : Int) (j : Int) e s l) (r, true) ∧ Ev (fun k => impl_playTimes_m60.l0 k out ts (ts.length : Int) (j : Int) e s l) (r, true, e, s, l') := by
  induction d with
  | zero =>
    intro j out l hj ho
    refine ⟨out, l, by omega, Ev.step (f := fun _ => some (out, true)) (fun k => ?_) (Ev.now _), Ev.step (f := fun _ => some (out, true, e, s, l)) (fun k => ?_) (Ev.now _)⟩
    · simp only [spec_PlayPacer.l0]; rw [if_neg (by omega)]
    · simp only [impl_playTimes_m60.l0]; rw [if_neg (by omega)]
  | succ d ih =>
    intro j out l hj ho
    obtain ⟨b, l1, g1, g2⟩ := pacer_keeps e s l (rd ts j)
    obtain ⟨r, l', hr, h1, h2⟩ := ih (j + 1) (out ++ [b]) l1 (by omega) (by simp [ho])
    refine ⟨r, l', hr, Ev.step (fun k => ?_) h1, Ev.step (fun k => ?_) h2⟩
    · simp only [spec_PlayPacer.l0]
      rw [if_pos (by omega), if_pos (by omega), if_pos (by omega), g1]
      simp only [Option.bind_some]
      rw [if_pos (by omega), wj (n := ts.length) (by omega) (by omega)]
    · simp only [impl_playTimes_m60.l0]
      rw [if_pos (by omega), if_pos (by omega), if_pos (by omega), g2]
      simp only [Option.bind_some]
      rw [if_pos (by omega), wj (n := ts.length) (by omega) (by omega)]
theorem PlayPacer_both (e s : Int) (ts : List Int) (hn : ts.length ≤ 1048576) : ∃ r, Ev (fun k => spec_PlayPacer.f k e s ts) r ∧ Ev (fun k => impl_PlayPacer.f k e s ts) r ∧ r.1.length ≤ 1048576 := by
  have sj : ∀ a b c : Int, Ev (fun k => spec_PlayPacer.j0 k ts true a b c) ([], false) := fun a b c =>
    Ev.step (f := fun _ => some ([], false)) (fun k => by simp [spec_PlayPacer.j0]) (Ev.now _)
  have ij : ∀ a b c : Int, Ev (fun k => impl_playTimes_m60.j0 k ts true a b c) ([], false, a, b, c) := fun a b c =>
    Ev.step (f := fun _ => some ([], false, a, b, c)) (fun k => by simp [impl_playTimes_m60.j0]) (Ev.now _)
  have fin : ∀ {r : List Bool × Bool} {a b c : Int}, Ev (fun k => impl_playTimes_m60.f k e s ts e s 0) (r.1, r.2, a, b, c) → Ev (fun k => impl_PlayPacer.f k e s ts) r := by
    intro r a b c h
    unfold impl_PlayPacer.f
    exact Ev.bind h (Ev.now _)
  by_cases hr : (1 ≤ e ∧ e ≤ 10000) ∧ 0 ≤ s ∧ s ≤ 100000
  · have eN : spec_NewPacer.f e s = some (e, s, 0, true) := by unfold spec_NewPacer.f; rw [l16Said_eq]; simp [hr]
    have eR : impl_isRate.f e s = some true := by rw [isRate_said, l16Said_eq]; simp [hr]
    have no : ¬ (Good ts ∧ ts.length ≤ 120) → ∃ r, Ev (fun k => spec_PlayPacer.f k e s ts) r ∧ Ev (fun k => impl_PlayPacer.f k e s ts) r ∧ r.1.length ≤ 1048576 := by
      intro hg
      refine ⟨([], false), ?_, fin (a := e) (b := s) (c := 0) ?_, by simp⟩
      · unfold spec_PlayPacer.f
        simp only [eN, Option.bind_some, if_true]
        by_cases g : Good ts
        · refine Ev.bind ((l16Times_ev ts hn).1 g) ?_
          rw [decide_eq_false (by intro h; exact hg ⟨g, by omega⟩)]
          exact sj _ _ _
        · exact Ev.bind ((l16Times_ev ts hn).2 g) (sj _ _ _)
      · unfold impl_playTimes_m60.f
        simp only [eR, Option.bind_some, if_true, areTimes_eq]
        by_cases h1 : (ts.length : Int) > 120
        · simp only [if_pos h1]; exact ij _ _ _
        · simp only [if_neg h1]
          by_cases h2 : (ts.all fun n => decide (0 ≤ n ∧ n ≤ 253402300799)) = true
          · simp only [if_pos h2]
            refine Ev.bind ((IsSorted_ev ts hn).2 (fun h3 => hg ⟨⟨fun n hm => by simpa using (List.all_eq_true.1 h2 n hm), h3⟩, by omega⟩)) (ij _ _ _)
          · simp only [if_neg h2]; exact ij _ _ _
    by_cases hg : Good ts ∧ ts.length ≤ 120
    · obtain ⟨r, l', hl, h1, h2⟩ := playp_l e s hr.2.1 ts hg.2 ts.length 0 [] 0 (by omega) rfl
      refine ⟨(r, true), ?_, fin (a := e) (b := s) (c := l') ?_, by show r.length ≤ _; omega⟩
      · unfold spec_PlayPacer.f
        simp only [eN, Option.bind_some, if_true]
        refine Ev.bind ((l16Times_ev ts hn).1 hg.1) ?_
        rw [decide_eq_true (by omega)]
        refine Ev.step (f := fun k => spec_PlayPacer.l0 k [] ts (ts.length : Int) 0 e s 0) (fun k => ?_) h1
        simp [spec_PlayPacer.j0]
      · unfold impl_playTimes_m60.f
        simp only [eR, Option.bind_some, if_true, areTimes_eq]
        have h3 : ¬ (ts.length : Int) > 120 := by omega
        have h4 : (ts.all fun n => decide (0 ≤ n ∧ n ≤ 253402300799)) = true := List.all_eq_true.2 (fun n hm => by simpa using hg.1.1 n hm)
        simp only [if_neg h3, if_pos h4]
        refine Ev.bind ((IsSorted_ev ts hn).1 hg.1.2) ?_
        refine Ev.step (f := fun k => impl_playTimes_m60.l0 k [] ts (ts.length : Int) 0 e s 0) (fun k => ?_) h2
        simp [impl_playTimes_m60.j0]
    · exact no hg
  · refine ⟨([], false), ?_, fin (a := e) (b := s) (c := 0) ?_, by simp⟩
    · unfold spec_PlayPacer.f spec_NewPacer.f
      simp only [l16Said_eq, Option.bind_some, decide_eq_false hr]
      simpa using sj 0 0 0
    · unfold impl_playTimes_m60.f
      simp only [isRate_said, l16Said_eq, Option.bind_some, decide_eq_false hr]
      simpa using ij e s 0

theorem FnExactPlayPacer : laws_FnExactPlayPacer.Pure := by
  intro e s l _ _ _ _ _
  refine Ev.law ?_
  unfold laws_FnExactPlayPacer.f
  by_cases hn : (l.length : Int) > 1048576
  · exact Ev.congr (fun k => by rw [if_pos hn]) (Ev.now _)
  have hn' : l.length ≤ 1048576 := by omega
  obtain ⟨⟨c, b⟩, h2, h1, hc⟩ := PlayPacer_both e s l hn'
  obtain ⟨lm, hm⟩ := markIntS_ev l hn'
  obtain ⟨c', m1, m2⟩ := markBool_both c hc
  simp only [if_neg hn]
  refine Ev.bind (toIntS_ev l hn') (Ev.bind h2 (Ev.bind (toIntS_ev l hn') (Ev.bind h1 (Ev.bind (eqBoolS_ev c hc) ?_))))
  simp only [if_true, bne_self_eq_false]
  have J2 : Ev (fun k => laws_FnExactPlayPacer.j2 k c' ((1 + c.length : Nat) : Int) false) true := by
    refine Ev.step (f := fun k => (laws_heldBoolS.f k c' 1).bind fun t192 => if t192 < 0 then some false else if t192 = ((1 + c.length : Nat) : Int) then some true else some false) (fun k => by simp [laws_FnExactPlayPacer.j2]) (Ev.bind m2 ?_)
    exact Ev.congr (f := fun _ => some true) (fun k => by rw [if_neg (by omega), if_pos rfl]) (Ev.now _)
  have J1 : Ev (fun k => laws_FnExactPlayPacer.j1 k e s l c b c false) true := by
    refine Ev.step (fun k => by simp only [laws_FnExactPlayPacer.j1]; rw [if_neg (by simp)]) (Ev.bind m1 (Ev.bind m2 ?_))
    have e1 : ¬ (((1 + c.length : Nat) : Int) < 0) := by omega
    simp only [if_neg e1, if_true]
    refine Ev.bind (toIntS_ev l hn') (Ev.bind h1 (Ev.bind (eqBoolS_ev c hc) ?_))
    simp only [if_true, bne_self_eq_false]
    exact J2
  refine Ev.step (fun k => by simp only [laws_FnExactPlayPacer.j0]; rw [if_neg (by simp)]) (Ev.bind (toIntS_ev l hn') (Ev.bind (eqIntS_ev l hn') ?_))
  simp only [if_true]
  refine Ev.bind hm ?_
  have e2 : ¬ (((1 + l.length : Nat) : Int) < 0) := by omega
  simp only [if_neg e2]
  refine Ev.bind (eqBoolS_ev c hc) ?_
  simp only [if_true, bne_self_eq_false]
  exact J1

end Go.Proofs.Ytagkaanogeafoaa.Pure
