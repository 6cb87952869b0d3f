/- The pure part of the law of LengthsOf: Huffman's process in lists, what both programs tell of it. -/
import Derived.Test.YtobbhgghpjecjaaPFnExactLengthsOfx6
namespace Go.Proofs.Ytobbhgghpjecjaa.Pure
open Go.RowKit Go.Proofs.Ytobbhgghpjecjaa.PFnExactLengthsOf Go.Proofs.YtobbhgghpjecjaaW.PrintWords Go.Proofs.YtobbhgghpjecjaaW.PrintLast Go.Proofs.YtobbhgghpjecjaaW.PrintMore Go.Proofs.YtobbhgghpjecjaaOwn
set_option linter.unusedVariables false
set_option linter.unusedSimpArgs false

/-! Huffman's optimality, in numbers alone. -/
namespace Huff
/-- The room that codes of these depths need, in parts of 2^M. -/
def kr (M : Nat) (P : List (Nat × Nat)) : Nat := (P.map fun p => 2 ^ (M - p.2)).sum
def cost (P : List (Nat × Nat)) : Nat := (P.map fun p => p.1 * p.2).sum
/-- What Huffman's merging costs. -/
inductive Merged : List Nat → Nat → Prop
  | one (w : Nat) : Merged [w] 0
  | step {ws rest : List Nat} {a b c : Nat} : ws.Perm (a :: b :: rest) → a ≤ b → (∀ x ∈ rest, b ≤ x) → Merged ((a + b) :: rest) c → Merged ws (c + (a + b))

end Huff

theorem wj {j n : Nat} (h : j < n) (hn : n ≤ 4611686018427387904) : wrap64 ((j : Int) + 1) = ((j + 1 : Nat) : Int) := by
  unfold wrap64; omega
theorem w64 {x : Int} (h0 : -9223372036854775808 ≤ x) (h1 : x ≤ 9223372036854775807) : wrap64 x = x := by
  unfold wrap64; omega
theorem rdj (l : List Int) (j : Nat) : rd l (j : Int) = l.getD j 0 := rfl
theorem getD_at {α : Type} {l : List α} {j : Nat} (h : j < l.length) (z : α) : l.getD j z = l[j] := by
  rw [List.getD_eq_getElem?_getD, List.getElem?_eq_getElem h]; rfl
theorem Ev.law {g : Nat → Option Bool} (h : Ev g true) : ∃ k, g k = some true := h.rounds
theorem l1In_eq (a b c : Int) : spec_l1In.f a b c = some (decide (b ≤ a ∧ a ≤ c)) := by
  unfold spec_l1In.f; by_cases h : b ≤ a <;> simp [h]
theorem within_eq (a b c : Int) : impl_within.f a b c = some (decide (b ≤ a ∧ a ≤ c)) := by
  unfold impl_within.f; by_cases h : b ≤ a <;> simp [h]

theorem toIntS_l (l : List Int) (hn : l.length ≤ 1048576) (d : Nat) : ∀ (j : Nat) (x3 : List Int), j + d = l.length → x3.length = l.length → (∀ i, i < j → x3[i]? = l[i]?) →
    Ev (fun k => laws_toIntS.l0 k l x3 (j : Int)) l := by
  induction d with
  | zero =>
    intro j x3 hj h3 he
    refine Ev.step (f := fun _ => some l) (fun k => ?_) (Ev.now _)
    simp only [laws_toIntS.l0]
    rw [if_neg (by omega)]
    refine congrArg some (List.ext_getElem? fun i => ?_)
    by_cases hi : i < j
    · exact he i hi
    · rw [List.getElem?_eq_none (by omega), List.getElem?_eq_none (by omega)]
  | succ d ih =>
    intro j x3 hj h3 he
    refine Ev.step (fun k => ?_) (ih (j + 1) (x3.set j (rd l j)) (by omega) (by simpa using h3) (fun i hi => ?_))
    · simp only [laws_toIntS.l0]
      rw [if_pos (by omega), if_pos (by omega), if_pos (by omega), wj (n := l.length) (by omega) (by omega)]
      rfl
    · rw [List.getElem?_set]
      split
      · rename_i h
        subst h
        rw [if_pos (by omega), rdj, getD_at (by omega), List.getElem?_eq_getElem (by omega)]
      · exact he i (by omega)
theorem toIntS_ev (l : List Int) (hn : l.length ≤ 1048576) : Ev (fun k => laws_toIntS.f k l) l := by
  refine Ev.congr (fun k => ?_) (toIntS_l l hn l.length 0 (List.replicate l.length 0) (by omega) (by simp) (fun i hi => by omega))
  simp only [laws_toIntS.f]
  rw [if_pos (by omega), if_pos (by omega)]
  rfl

theorem eqIntS_l (l : List Int) (hn : l.length ≤ 1048576) (d : Nat) : ∀ (j : Nat), j + d = l.length → Ev (fun k => laws_eqIntS.l0 k l l (j : Int)) true := by
  induction d with
  | zero =>
    intro j hj
    refine Ev.step (f := fun _ => some true) (fun k => ?_) (Ev.now _)
    simp only [laws_eqIntS.l0]
    rw [if_neg (by omega)]
  | succ d ih =>
    intro j hj
    refine Ev.step (fun k => ?_) (ih (j + 1) (by omega))
    simp only [laws_eqIntS.l0]
    rw [if_pos (by omega), if_pos (by omega), if_pos (by omega), if_pos trivial, wj (n := l.length) (by omega) (by omega)]
theorem eqIntS_ev (l : List Int) (hn : l.length ≤ 1048576) : Ev (fun k => laws_eqIntS.f k l l) true := by
  refine Ev.congr (fun k => ?_) (eqIntS_l l hn l.length 0 (by omega))
  simp only [laws_eqIntS.f]
  rw [if_pos trivial]
  rfl

theorem markIntS_l {n : Nat} (hn : n ≤ 1048576) (d : Nat) : ∀ (l : List Int) (c j : Nat), l.length = n → j + d = n → c ≤ 2097152 + j → ∃ l', Ev (fun k => laws_markIntS.l0 k l (c : Int) (j : Int)) (((c + d : Nat) : Int), l') := by
  induction d with
  | zero =>
    intro l c j hl hj hc
    refine ⟨l, Ev.step (f := fun _ => some (((c : Nat) : Int), l)) (fun k => ?_) (Ev.now _)⟩
    simp only [laws_markIntS.l0]; rw [if_neg (by omega)]
  | succ d ih =>
    intro l c j hl hj hc
    obtain ⟨l', h⟩ := ih (l.set j (c : Int)) (c + 1) (j + 1) (by simpa using hl) (by omega) (by omega)
    rw [show c + 1 + d = c + (d + 1) from by omega] at h
    refine ⟨l', Ev.step (fun k => ?_) h⟩
    simp only [laws_markIntS.l0]
    rw [if_pos (by omega), if_pos (by omega), w64 (x := (c : Int) + 1) (by omega) (by omega), wj (j := j) (n := n) (by omega) (by omega)]
    rfl
theorem markIntS_ev (l : List Int) (hn : l.length ≤ 1048576) : ∃ l', Ev (fun k => laws_markIntS.f k l 1) (((1 + l.length : Nat) : Int), l') := by
  obtain ⟨l', h⟩ := markIntS_l (n := l.length) hn l.length l 1 0 rfl (by omega) (by omega)
  exact ⟨l', h⟩

theorem markIntB_l {n : Nat} (hn : n ≤ 1048576) (d : Nat) : ∀ (l : List Int) (c j : Nat), l.length = n → j + d = n → c ≤ 2097152 + j →
    ∃ l', Ev (fun k => laws_markIntS.l0 k l (c : Int) (j : Int)) (((c + d : Nat) : Int), l') ∧ l'.length = n ∧ (∀ i, i < j → l'[i]? = l[i]?) ∧ ∀ i, j ≤ i → i < n → l'[i]? = some ((c + (i - j) : Nat) : Int) := by
  induction d with
  | zero =>
    intro l c j hl hj hc
    refine ⟨l, Ev.step (f := fun _ => some (((c : Nat) : Int), l)) (fun k => ?_) (Ev.now _), hl, fun _ _ => rfl, fun i h1 h2 => by omega⟩
    simp only [laws_markIntS.l0]; rw [if_neg (by omega)]
  | succ d ih =>
    intro l c j hl hj hc
    obtain ⟨l', h, h1, h2, h3⟩ := ih (l.set j (c : Int)) (c + 1) (j + 1) (by simpa using hl) (by omega) (by omega)
    rw [show c + 1 + d = c + (d + 1) from by omega] at h
    refine ⟨l', Ev.step (fun k => ?_) h, h1, fun i hi => ?_, fun i hi hi' => ?_⟩
    · simp only [laws_markIntS.l0]
      rw [if_pos (by omega), if_pos (by omega), w64 (x := (c : Int) + 1) (by omega) (by omega), wj (j := j) (n := n) (by omega) (by omega)]
      rfl
    · rw [h2 i (by omega), List.getElem?_set_ne (by omega)]
    · by_cases e : i = j
      · subst e
        rw [h2 i (by omega), List.getElem?_set_self (by omega)]
        simp
      · rw [h3 i (by omega) hi', show c + 1 + (i - (j + 1)) = c + (i - j) from by omega]
theorem heldIntS_l (l : List Int) (hn : l.length ≤ 1048576) (b : Nat) (hb : b ≤ 2097152) (hl : ∀ i, i < l.length → l[i]? = some ((b + i : Nat) : Int)) (d : Nat) : ∀ (j : Nat), j + d = l.length →
    Ev (fun k => laws_heldIntS.l0 k l ((b + j : Nat) : Int) (j : Int)) ((b + l.length : Nat) : Int) := by
  induction d with
  | zero =>
    intro j hj
    obtain rfl : j = l.length := by omega
    refine Ev.step (f := fun _ => some ((b + l.length : Nat) : Int)) (fun k => ?_) (Ev.now _)
    simp only [laws_heldIntS.l0]; rw [if_neg (by omega)]
  | succ d ih =>
    intro j hj
    have hlt : j < l.length := by omega
    refine Ev.step (fun k => ?_) (ih (j + 1) (by omega))
    simp only [laws_heldIntS.l0]
    rw [if_pos (by omega), if_pos (by omega), rdj, getD_at hlt, if_pos (by
      have := hl j hlt
      rw [List.getElem?_eq_getElem hlt] at this
      exact Option.some.inj this)]
    rw [w64 (x := ((b + j : Nat) : Int) + 1) (by omega) (by omega), wj (j := j) (n := l.length) hlt (by omega)]
    rfl
/-- What is marked is held. -/
theorem markInt_both (l : List Int) (hn : l.length ≤ 1048576) : ∃ l', Ev (fun k => laws_markIntS.f k l 1) (((1 + l.length : Nat) : Int), l') ∧ Ev (fun k => laws_heldIntS.f k l' 1) ((1 + l.length : Nat) : Int) := by
  obtain ⟨l', h, h1, _, h3⟩ := markIntB_l (n := l.length) hn l.length l 1 0 rfl (by omega) (by omega)
  refine ⟨l', h, ?_⟩
  have := heldIntS_l l' (by omega) 1 (by omega) (fun i hi => by rw [h3 i (by omega) (by omega)]; rfl) l'.length 0 (by omega)
  rw [h1] at this
  exact this

/-- Numbers that are weights. -/
def wtB (l : List Int) : Bool := decide (2 ≤ (l.length : Int) ∧ (l.length : Int) ≤ 24) && l.all fun n => decide (1 ≤ n ∧ n ≤ 100000)
theorem wtB_iff (l : List Int) : wtB l = true ↔ (2 ≤ (l.length : Int) ∧ (l.length : Int) ≤ 24) ∧ ∀ n ∈ l, 1 ≤ n ∧ n ≤ 100000 := by
  simp [wtB, List.all_eq_true]
theorem areWeights_eq (l : List Int) : impl_areWeights.f l = some (wtB l) := by
  unfold impl_areWeights.f impl_areAll_int__91.f
  rw [within_eq, allO_all (q := fun n => decide (1 ≤ n ∧ n ≤ 100000)) (fun x => by unfold impl_areWeights_1.f; rw [within_eq]; rfl)]
  simp only [Option.bind_some, wtB]
  by_cases h : 2 ≤ (l.length : Int) ∧ (l.length : Int) ≤ 24 <;> simp [h]
theorem l15Weights_l (l : List Int) (hn : l.length ≤ 1048576) (d : Nat) : ∀ (j : Nat), j + d = l.length → (∀ n ∈ l.take j, 1 ≤ n ∧ n ≤ 100000) → Ev (fun k => spec_l15Weights.l0 k l l (l.length : Int) (j : Int)) (wtB l) := by
  induction d with
  | zero =>
    intro j hj ha
    refine Ev.step (f := fun _ => some (wtB l)) (fun k => ?_) (Ev.now _)
    simp only [spec_l15Weights.l0]
    rw [if_neg (by omega), l1In_eq]
    simp only [Option.bind_some, Option.some.injEq, wtB]
    rw [List.take_of_length_le (by omega)] at ha
    rw [show (l.all fun n => decide (1 ≤ n ∧ n ≤ 100000)) = true from by simpa [List.all_eq_true] using ha, Bool.and_true]
  | succ d ih =>
    intro j hj ha
    have hlt : j < l.length := by omega
    by_cases hx : 1 ≤ l[j] ∧ l[j] ≤ 100000
    · refine Ev.step (fun k => ?_) (ih (j + 1) (by omega) (fun n hm => ?_))
      · simp only [spec_l15Weights.l0]
        rw [if_pos (by omega), if_pos (by omega), if_pos (by omega), l1In_eq, rdj, getD_at hlt]
        simp only [Option.bind_some, decide_eq_true_eq]
        rw [if_pos hx, wj (n := l.length) hlt (by omega)]
      · rw [List.take_succ_eq_append_getElem hlt, List.mem_append] at hm
        rcases hm with hm | hm
        · exact ha n hm
        · rw [List.mem_singleton.1 hm]; exact hx
    · refine Ev.step (f := fun _ => some (wtB l)) (fun k => ?_) (Ev.now _)
      simp only [spec_l15Weights.l0]
      rw [if_pos (by omega), if_pos (by omega), if_pos (by omega), l1In_eq, rdj, getD_at hlt]
      simp only [Option.bind_some, decide_eq_true_eq]
      rw [if_neg hx]
      refine congrArg some ?_
      symm
      rw [Bool.eq_false_iff]
      intro h
      exact hx ((wtB_iff l).1 h |>.2 _ (List.getElem_mem hlt))
theorem l15Weights_ev (l : List Int) (hn : l.length ≤ 1048576) : Ev (fun k => spec_l15Weights.f k l) (wtB l) :=
  l15Weights_l l hn l.length 0 (by omega) (by simp)

theorem fm_perm {α β : Type} (f : α → List β) {l l' : List α} (h : l.Perm l') : (l.flatMap f).Perm (l'.flatMap f) := by
  induction h with
  | nil => exact List.Perm.refl _
  | cons x _ ih => simp only [List.flatMap_cons]; exact ih.append_left _
  | swap x y l =>
    simp only [List.flatMap_cons]
    rw [← List.append_assoc, ← List.append_assoc]
    exact List.perm_append_comm.append_right _
  | trans _ _ h1 h2 => exact h1.trans h2
theorem sum_perm {l l' : List Nat} (h : l.Perm l') : l.sum = l'.sum := by
  induction h with
  | nil => rfl
  | cons x _ ih => simp [ih]
  | swap x y l => simp; omega
  | trans _ _ h1 h2 => exact h1.trans h2
theorem sum_half {α : Type} (f g : α → Nat) : ∀ (l : List α), (∀ i ∈ l, f i * 2 = g i) → (l.map f).sum * 2 = (l.map g).sum
  | [], _ => rfl
  | x :: xs, h => by
    have h1 := h x List.mem_cons_self
    have h2 := sum_half f g xs (fun i hi => h i (List.mem_cons_of_mem _ hi))
    simp only [List.map_cons, List.sum_cons]; omega
theorem sum_plus {α : Type} (f g h : α → Nat) : ∀ (l : List α), (∀ i ∈ l, f i = g i + h i) → (l.map f).sum = (l.map g).sum + (l.map h).sum
  | [], _ => rfl
  | x :: xs, hh => by
    have h1 := hh x List.mem_cons_self
    have h2 := sum_plus f g h xs (fun i hi => hh i (List.mem_cons_of_mem _ hi))
    simp only [List.map_cons, List.sum_cons]; omega
theorem sum_bound {α : Type} (f : α → Nat) (B : Nat) : ∀ (l : List α), (∀ i ∈ l, f i ≤ B) → (l.map f).sum ≤ l.length * B
  | [], _ => by simp
  | x :: xs, hh => by
    have h1 := hh x List.mem_cons_self
    have h2 := sum_bound f B xs (fun i hi => hh i (List.mem_cons_of_mem _ hi))
    simp only [List.map_cons, List.sum_cons, List.length_cons, Nat.add_mul]; omega
theorem sum_same {α : Type} (f g : α → Nat) (l : List α) (h : ∀ i ∈ l, f i = g i) : (l.map f).sum = (l.map g).sum := by
  rw [List.map_congr_left h]
theorem rdT91_at (xs : List S91) {j : Nat} (h : j < xs.length) : rd_T91 xs (j : Int) = xs[j] := by
  show xs.getD j _ = _
  exact getD_at h _
theorem erase_perm {α : Type} (l : List α) (i : Nat) (h : i < l.length) : l.Perm (l[i] :: l.eraseIdx i) := by
  induction l generalizing i with
  | nil => simp at h
  | cons x xs ih =>
    cases i with
    | zero => simp
    | succ i =>
      simp only [List.getElem_cons_succ, List.eraseIdx_cons_succ]
      exact ((ih i (by simpa using h)).cons x).trans (List.Perm.swap _ _ _)
theorem bstT_min (full : List Int) : ∀ (ys : List Int) (i b : Nat) (wb : Int), full.drop i = ys → full[b]? = some wb → (∀ j : Nat, j < i → ∀ v : Int, full[j]? = some v → wb ≤ v) → ∃ v : Int, full[bstT ys i b wb]? = some v ∧ ∀ (j : Nat) (u : Int), full[j]? = some u → v ≤ u
  | [], i, b, wb, hd, hb, hm => ⟨wb, hb, fun j u hu => by
      have hl : full.length ≤ i := by
        have := congrArg List.length hd
        simp at this; omega
      exact hm j (by have := (List.getElem?_eq_some_iff.1 hu).1; omega) u hu⟩
  | y :: ys, i, b, wb, hd, hb, hm => by
    have hi : i < full.length := by
      rcases Nat.lt_or_ge i full.length with h | h
      · exact h
      · rw [List.drop_eq_nil_of_le h] at hd; cases hd
    have hd2 := hd
    rw [List.drop_eq_getElem_cons hi] at hd2
    injection hd2 with e1 e2
    have hy : full[i]? = some y := by rw [List.getElem?_eq_getElem hi, e1]
    simp only [bstT]
    split
    · rename_i c
      refine bstT_min full ys (i + 1) i y e2 hy (fun j hj v hv => ?_)
      rcases Nat.lt_or_ge j i with h | h
      · have := hm j h v hv; omega
      · obtain rfl : j = i := by omega
        rw [hy] at hv; injection hv with hv; omega
    · rename_i c
      refine bstT_min full ys (i + 1) b wb e2 hb (fun j hj v hv => ?_)
      rcases Nat.lt_or_ge j i with h | h
      · exact hm j h v hv
      · obtain rfl : j = i := by omega
        rw [hy] at hv; injection hv with hv; omega
theorem lgT_min {xs : List S91} (h : 0 < xs.length) : ∀ x ∈ xs, (rd_T91 xs (lgT xs : Nat)).f0 ≤ x.f0 := by
  intro x hx
  have e0 : (rd_T91 xs 0) = xs[0] := rdT91_at xs h
  obtain ⟨v, hv, hm⟩ := bstT_min (xs.map (·.f0)) (xs.map (·.f0)) 0 0 (rd_T91 xs 0).f0 (by simp) (by rw [e0]; simp [h]) (fun j hj => by omega)
  have hl := lgT_lt h
  rw [rdT91_at xs hl]
  have e1 : (xs.map (·.f0))[lgT xs]? = some v := hv
  simp only [List.getElem?_map, List.getElem?_eq_getElem hl, Option.map_some, Option.some.injEq] at e1
  obtain ⟨j, hj, rfl⟩ := List.getElem_of_mem hx
  have := hm j (xs[j]).f0 (by simp [hj])
  omega
theorem rd_set {out : List Int} {i j v : Int} (h0 : 0 ≤ i) (h1 : i < (out.length : Int)) (hj : 0 ≤ j) : rd (out.set i.toNat v) j = if j = i then v else rd out j := by
  show (out.set i.toNat v).getD j.toNat 0 = if j = i then v else out.getD j.toNat 0
  rw [List.getD_eq_getElem?_getD, List.getD_eq_getElem?_getD, List.getElem?_set]
  by_cases c : j = i
  · subst c; rw [if_pos rfl, if_pos rfl, if_pos (by omega)]; rfl
  · rw [if_neg c, if_neg (by omega)]
theorem bumpO_is (n : Nat) : ∀ (l out : List Int), l.Nodup → (∀ i ∈ l, 0 ≤ i ∧ i < (n : Int)) → out.length = n → (∀ i ∈ l, 0 ≤ rd out i ∧ rd out i ≤ 100) →
    ∃ o2, bumpO l out = some o2 ∧ o2.length = n ∧ (∀ i, i ∈ l → rd o2 i = rd out i + 1) ∧ ∀ i, 0 ≤ i → i ∉ l → rd o2 i = rd out i
  | [], out, _, _, hl, _ => ⟨out, rfl, hl, fun i hi => by simp at hi, fun _ _ _ => rfl⟩
  | i :: is, out, hd, hr, hl, hb => by
    have hi := hr i List.mem_cons_self
    have hbi := hb i List.mem_cons_self
    have hd2 := List.nodup_cons.1 hd
    have ew : wrap64 (rd out i + 1) = rd out i + 1 := w64 (by omega) (by omega)
    obtain ⟨o2, e, e1, e2, e3⟩ := bumpO_is n is (out.set i.toNat (wrap64 (rd out i + 1))) hd2.2 (fun j hj => hr j (List.mem_cons_of_mem _ hj)) (by simpa using hl) (fun j hj => by
      have hj2 := hr j (List.mem_cons_of_mem _ hj)
      rw [rd_set hi.1 (by omega) hj2.1]
      split
      · rename_i c; subst c; exact absurd hj hd2.1
      · exact hb j (List.mem_cons_of_mem _ hj))
    refine ⟨o2, ?_, e1, fun j hj => ?_, fun j hj hn => ?_⟩
    · simp only [bumpO]; rw [if_pos hi.1, if_pos (by omega)]; exact e
    · rcases List.mem_cons.1 hj with rfl | hj
      · rw [e3 j hi.1 hd2.1, rd_set hi.1 (by omega) hi.1, if_pos rfl, ew]
      · have hj2 := hr j (List.mem_cons_of_mem _ hj)
        rw [e2 j hj, rd_set hi.1 (by omega) hj2.1, if_neg (fun c : j = i => hd2.1 (c ▸ hj))]
    · rw [e3 j hj (fun h => hn (List.mem_cons_of_mem _ h)), rd_set hi.1 (by omega) hj, if_neg (fun c : j = i => hn (c ▸ List.mem_cons_self))]
def Wt (w : List Int) (i : Int) : Nat := (rd w i).toNat
structure HInv (n : Nat) (w : List Int) (xs : List S91) (out : List Int) : Prop where
  len : out.length = n
  pm : (xs.flatMap (·.f1)).Perm ((List.range n).map (fun i : Nat => (i : Int)))
  ne : ∀ x ∈ xs, x.f1 ≠ []
  lo : ∀ x ∈ xs, ∀ i ∈ x.f1, 0 ≤ rd out i ∧ rd out i + 1 ≤ x.f1.length
  kr : ∀ x ∈ xs, (x.f1.map fun i => 2 ^ (23 - (rd out i).toNat)).sum = 2 ^ 23
  wt : ∀ x ∈ xs, x.f0 = (((x.f1.map (Wt w)).sum : Nat) : Int)
def costN (n : Nat) (w out : List Int) : Nat := (((List.range n).map (fun i : Nat => (i : Int))).map fun i => Wt w i * (rd out i).toNat).sum
theorem mem_rng {n : Nat} {i : Int} : i ∈ (List.range n).map (fun i : Nat => (i : Int)) ↔ 0 ≤ i ∧ i < (n : Int) := by
  simp only [List.mem_map, List.mem_range]
  constructor
  · rintro ⟨a, h, rfl⟩; omega
  · rintro ⟨h0, h1⟩; exact ⟨i.toNat, by omega, by omega⟩
theorem nodup_rng (n : Nat) : ((List.range n).map (fun i : Nat => (i : Int))).Nodup := by
  rw [List.nodup_iff_pairwise_ne, List.pairwise_map]
  exact (List.nodup_range (n := n)).imp (fun h e => h (by omega))
theorem HInv.step {n : Nat} {w : List Int} {xs : List S91} {out : List Int} (h : HInv n w xs out) (hn : n ≤ 24) (hw : ∀ i, 0 ≤ i → i < (n : Int) → Wt w i ≤ 100000) (h2 : 1 < xs.length) :
    (bothT xs).length ≤ 24 ∧ ∃ o2, bumpO (bothT xs) out = some o2 ∧ HInv n w (restT xs ++ [⟨sumT xs, bothT xs⟩]) o2 ∧
    ∃ a b : S91, xs.Perm (a :: b :: restT xs) ∧ a.f0 ≤ b.f0 ∧ (∀ x ∈ restT xs, b.f0 ≤ x.f0) ∧ 0 ≤ a.f0 ∧ 0 ≤ b.f0 ∧ sumT xs = a.f0 + b.f0 ∧ costN n w o2 = costN n w out + (sumT xs).toNat := by
  have hl1 := lgT_lt (xs := xs) (by omega)
  have hel : (xs.eraseIdx (lgT xs)).length = xs.length - 1 := by rw [List.length_eraseIdx, if_pos hl1]
  have hl2 := lgT_lt (xs := xs.eraseIdx (lgT xs)) (by omega)
  have m1 := lgT_min (xs := xs) (by omega)
  have m2 := lgT_min (xs := xs.eraseIdx (lgT xs)) (by omega)
  have p1 := erase_perm xs (lgT xs) hl1
  have p2 := erase_perm (xs.eraseIdx (lgT xs)) (lgT (xs.eraseIdx (lgT xs))) hl2
  have eb : bothT xs = (rd_T91 xs (lgT xs)).f1 ++ (rd_T91 (xs.eraseIdx (lgT xs)) (lgT (xs.eraseIdx (lgT xs)))).f1 := rfl
  have es : sumT xs = wrap64 ((rd_T91 xs (lgT xs)).f0 + (rd_T91 (xs.eraseIdx (lgT xs)) (lgT (xs.eraseIdx (lgT xs)))).f0) := rfl
  have er : restT xs = (xs.eraseIdx (lgT xs)).eraseIdx (lgT (xs.eraseIdx (lgT xs))) := rfl
  rw [← rdT91_at xs hl1] at p1
  rw [← rdT91_at _ hl2, ← er] at p2
  generalize rd_T91 xs (lgT xs) = a at *
  generalize rd_T91 (xs.eraseIdx (lgT xs)) (lgT (xs.eraseIdx (lgT xs))) = b at *
  have pp : xs.Perm (a :: b :: restT xs) := p1.trans (p2.cons a)
  have hma : a ∈ xs := pp.mem_iff.2 List.mem_cons_self
  have hmb : b ∈ xs := pp.mem_iff.2 (List.mem_cons_of_mem _ List.mem_cons_self)
  have hmr : ∀ x ∈ restT xs, x ∈ xs := fun x hx => pp.mem_iff.2 (List.mem_cons_of_mem _ (List.mem_cons_of_mem _ hx))
  have hab : a.f0 ≤ b.f0 := m1 b hmb
  have hbr : ∀ x ∈ restT xs, b.f0 ≤ x.f0 := fun x hx => m2 x (p2.mem_iff.2 (List.mem_cons_of_mem _ hx))
  have pf := (fm_perm (fun x : S91 => x.f1) pp).symm.trans h.pm
  simp only [List.flatMap_cons] at pf
  rw [← List.append_assoc, ← eb] at pf
  have hnd : (bothT xs ++ (restT xs).flatMap (fun x => x.f1)).Nodup := pf.symm.nodup (nodup_rng n)
  have hlen : (bothT xs ++ (restT xs).flatMap (fun x => x.f1)).length = n := by rw [pf.length_eq]; simp
  have hmem : ∀ i ∈ bothT xs, 0 ≤ i ∧ i < (n : Int) := fun i hi => mem_rng.1 (pf.mem_iff.1 (List.mem_append_left _ hi))
  have hla : 1 ≤ a.f1.length := List.length_pos_iff.2 (h.ne a hma)
  have hlb : 1 ≤ b.f1.length := List.length_pos_iff.2 (h.ne b hmb)
  have hbl : (bothT xs).length = a.f1.length + b.f1.length := by rw [eb, List.length_append]
  have hbn : (bothT xs).length ≤ n := by rw [← hlen, List.length_append]; omega
  have hlo : ∀ i ∈ bothT xs, 0 ≤ rd out i ∧ rd out i + 2 ≤ (bothT xs).length := by
    intro i hi
    rw [eb] at hi
    rcases List.mem_append.1 hi with hi | hi
    · have := h.lo a hma i hi; omega
    · have := h.lo b hmb i hi; omega
  obtain ⟨hn1, hn2, hn3⟩ := List.nodup_append.1 hnd
  obtain ⟨o2, e, e1, e2, e3⟩ := bumpO_is n (bothT xs) out hn1 hmem h.len (fun i hi => by have := hlo i hi; omega)
  have hrest : ∀ x ∈ restT xs, ∀ i ∈ x.f1, rd o2 i = rd out i := by
    intro x hx i hi
    have hf : i ∈ (restT xs).flatMap (fun x => x.f1) := List.mem_flatMap.2 ⟨x, hx, hi⟩
    exact e3 i (mem_rng.1 (pf.mem_iff.1 (List.mem_append_right _ hf))).1 (fun hb => hn3 i hb i hf rfl)
  have hsum : (((bothT xs).map (Wt w)).sum : Nat) = (a.f1.map (Wt w)).sum + (b.f1.map (Wt w)).sum := by rw [eb, List.map_append, List.sum_append]
  have hsb : ((bothT xs).map (Wt w)).sum ≤ (bothT xs).length * 100000 := sum_bound _ _ _ (fun i hi => hw i (hmem i hi).1 (hmem i hi).2)
  have hsb2 : (bothT xs).length * 100000 ≤ 24 * 100000 := Nat.mul_le_mul_right _ (by omega)
  have ha0 := h.wt a hma
  have hb0 := h.wt b hmb
  have hs : sumT xs = a.f0 + b.f0 := by rw [es]; exact w64 (by omega) (by omega)
  have hst : sumT xs = ((((bothT xs).map (Wt w)).sum : Nat) : Int) := by rw [hs, hsum]; omega
  refine ⟨by omega, o2, e, ⟨e1, ?_, ?_, ?_, ?_, ?_⟩, a, b, pp, hab, hbr, by omega, by omega, hs, ?_⟩
  · rw [List.flatMap_append]
    simp only [List.flatMap_cons, List.flatMap_nil, List.append_nil]
    exact List.perm_append_comm.trans pf
  · intro x hx
    rcases List.mem_append.1 hx with hx | hx
    · exact h.ne x (hmr x hx)
    · rw [List.mem_singleton.1 hx]
      exact fun c => by rw [show (bothT xs) = [] from c] at hbl; simp at hbl; omega
  · intro x hx i hi
    rcases List.mem_append.1 hx with hx | hx
    · rw [hrest x hx i hi]; exact h.lo x (hmr x hx) i hi
    · rw [List.mem_singleton.1 hx] at hi ⊢
      have hi' : i ∈ bothT xs := hi
      have := hlo i hi'
      rw [e2 i hi']
      show _ ∧ _ ≤ (((bothT xs).length : Nat) : Int)
      omega
  · intro x hx
    rcases List.mem_append.1 hx with hx | hx
    · rw [← h.kr x (hmr x hx)]
      exact sum_same _ _ _ (fun i hi => by rw [hrest x hx i hi])
    · rw [List.mem_singleton.1 hx]
      show ((bothT xs).map fun i => 2 ^ (23 - (rd o2 i).toNat)).sum = 2 ^ 23
      have hh : ∀ i ∈ bothT xs, 2 ^ (23 - (rd o2 i).toNat) * 2 = 2 ^ (23 - (rd out i).toNat) := by
        intro i hi
        have := hlo i hi
        rw [e2 i hi, ← Nat.pow_succ]
        congr 1
        omega
      have h3 := sum_half _ _ _ hh
      have h4 : ((bothT xs).map fun i => 2 ^ (23 - (rd out i).toNat)).sum = 2 ^ 23 + 2 ^ 23 := by
        rw [eb, List.map_append, List.sum_append, h.kr a hma, h.kr b hmb]
      omega
  · intro x hx
    rcases List.mem_append.1 hx with hx | hx
    · exact h.wt x (hmr x hx)
    · rw [List.mem_singleton.1 hx]; exact hst
  · rw [hst, Int.toNat_natCast]
    have c1 : ∀ o : List Int, costN n w o = ((bothT xs).map fun i => Wt w i * (rd o i).toNat).sum + (((restT xs).flatMap (fun x => x.f1)).map fun i => Wt w i * (rd o i).toNat).sum := by
      intro o
      unfold costN
      rw [← sum_perm (pf.map _), List.map_append, List.sum_append]
    rw [c1 o2, c1 out]
    have c2 := sum_plus (fun i => Wt w i * (rd o2 i).toNat) (fun i => Wt w i * (rd out i).toNat) (Wt w) (bothT xs) (fun i hi => by
      have := hlo i hi
      rw [e2 i hi, show (rd out i + 1).toNat = (rd out i).toNat + 1 by omega, Nat.mul_add, Nat.mul_one])
    have c3 := sum_same (fun i => Wt w i * (rd o2 i).toNat) (fun i => Wt w i * (rd out i).toNat) ((restT xs).flatMap (fun x => x.f1)) (fun i hi => by
      obtain ⟨x, hx, hi⟩ := List.mem_flatMap.1 hi
      rw [hrest x hx i hi])
    omega
theorem restT_length {xs : List S91} (h2 : 1 < xs.length) : (restT xs).length + 2 = xs.length := by
  have hl1 := lgT_lt (xs := xs) (by omega)
  have hel : (xs.eraseIdx (lgT xs)).length = xs.length - 1 := by rw [List.length_eraseIdx, if_pos hl1]
  have hl2 := lgT_lt (xs := xs.eraseIdx (lgT xs)) (by omega)
  show ((xs.eraseIdx (lgT xs)).eraseIdx (lgT (xs.eraseIdx (lgT xs)))).length + 2 = _
  rw [List.length_eraseIdx, if_pos hl2]; omega

theorem merged_perm {ws : List Nat} {c : Nat} (h : Huff.Merged ws c) : ∀ {ws' : List Nat}, ws.Perm ws' → Huff.Merged ws' c := by
  cases h with
  | one w => intro ws' hp; rw [← List.singleton_perm.1 hp]; exact .one w
  | step h1 h2 h3 h4 => intro ws' hp; exact .step (hp.symm.trans h1) h2 h3 h4
theorem proc_ok {n : Nat} {w : List Int} (hn : n ≤ 24) (hw : ∀ i, 0 ≤ i → i < (n : Int) → Wt w i ≤ 100000) : ∀ (m : Nat) (xs : List S91) (out : List Int), xs.length = m + 1 → HInv n w xs out → ∀ fuel, m < fuel →
    ∃ r x c, procT fuel xs out = some r ∧ HInv n w [x] r ∧ Huff.Merged (xs.map fun x => x.f0.toNat) c ∧ costN n w r = costN n w out + c
  | 0, xs, out, hl, h, fuel, hf => by
    obtain ⟨f, rfl⟩ : ∃ f, fuel = f + 1 := ⟨fuel - 1, by omega⟩
    match xs, hl with
    | [x], _ => exact ⟨out, x, 0, by simp [procT], h, .one _, rfl⟩
  | m + 1, xs, out, hl, h, fuel, hf => by
    obtain ⟨f, rfl⟩ : ∃ f, fuel = f + 1 := ⟨fuel - 1, by omega⟩
    have h2 : 1 < xs.length := by omega
    obtain ⟨hb, o2, e, hi, a, b, pp, hab, hbr, ha0, hb0, hs, hc⟩ := h.step hn hw h2
    have hrl := restT_length h2
    obtain ⟨r, x, c, e1, e2, e3, e4⟩ := proc_ok hn hw m (restT xs ++ [⟨sumT xs, bothT xs⟩]) o2 (by simp; omega) hi f (by omega)
    refine ⟨r, x, c + (a.f0.toNat + b.f0.toNat), ?_, e2, ?_, ?_⟩
    · simp only [procT]
      rw [if_pos h2, if_pos (by omega), e]
      exact e1
    · refine .step (pp.map _) (by omega) (fun y hy => ?_) (merged_perm e3 ?_)
      · obtain ⟨z, hz, rfl⟩ := List.mem_map.1 hy
        have := hbr z hz
        omega
      · rw [List.map_append]
        refine List.perm_append_comm.trans ?_
        simp only [List.map_cons, List.map_nil, List.singleton_append]
        rw [show (sumT xs).toNat = a.f0.toNat + b.f0.toNat by omega]
    · rw [e4, hc]; omega
theorem mem_mkT {w : List Int} {x : S91} (h : x ∈ mkT w) : ∃ i : Nat, i < w.length ∧ x = ⟨rd w (i : Int), [(i : Int)]⟩ := by
  obtain ⟨p, hp, rfl⟩ := List.mem_map.1 h
  have := List.mem_zipIdx_iff_getElem?.1 hp
  obtain ⟨hl, he⟩ := List.getElem?_eq_some_iff.1 this
  refine ⟨p.2, hl, ?_⟩
  rw [rdj, getD_at hl, he]
theorem mkT_inv (w : List Int) (hn : w.length ≤ 24) (hw : ∀ v ∈ w, 1 ≤ v ∧ v ≤ 100000) : HInv w.length w (mkT w) (List.replicate w.length 0) := by
  have r0 : ∀ i : Nat, rd (List.replicate w.length 0) (i : Int) = 0 := by
    intro i
    show (List.replicate w.length (0 : Int)).getD i 0 = 0
    rw [List.getD_eq_getElem?_getD, List.getElem?_replicate]
    split <;> rfl
  refine ⟨by simp, ?_, ?_, ?_, ?_, ?_⟩
  · have : (mkT w).flatMap (fun x => x.f1) = (List.range w.length).map (fun i : Nat => (i : Int)) := by
      unfold mkT
      rw [List.flatMap_map]
      have e2 : ∀ l : List (Int × Nat), (l.flatMap fun p => [(p.2 : Int)]) = (l.map Prod.snd).map (fun i : Nat => (i : Int)) := by
        intro l
        induction l with
        | nil => rfl
        | cons p l ih => simp only [List.flatMap_cons, List.map_cons, ih]; rfl
      rw [e2, List.zipIdx_map_snd, List.range_eq_range']
    rw [this]
  · intro x hx
    obtain ⟨i, _, rfl⟩ := mem_mkT hx
    simp
  · intro x hx j hj
    obtain ⟨i, _, rfl⟩ := mem_mkT hx
    rw [List.mem_singleton.1 hj, r0]; simp
  · intro x hx
    obtain ⟨i, _, rfl⟩ := mem_mkT hx
    simp only [List.map_cons, List.map_nil, List.sum_cons, List.sum_nil, r0]; rfl
  · intro x hx
    obtain ⟨i, hi, rfl⟩ := mem_mkT hx
    simp only [List.map_cons, List.map_nil, List.sum_cons, List.sum_nil, Wt]
    have := hw _ (List.getElem_mem hi)
    rw [rdj, getD_at hi]; omega
/-- The lengths that the process tells. -/
structure LensOk (w r : List Int) (c : Nat) : Prop where
  len : r.length = w.length
  hi : ∀ v ∈ r, 1 ≤ v ∧ v ≤ 23
  kr : (((List.range w.length).map (fun i : Nat => (i : Int))).map fun i => 2 ^ (23 - (rd r i).toNat)).sum = 2 ^ 23
  cost : costN w.length w r = c
  merged : Huff.Merged (w.map Int.toNat) c
theorem lens_proc (w : List Int) (h2 : 2 ≤ w.length) (hn : w.length ≤ 24) (hw : ∀ v ∈ w, 1 ≤ v ∧ v ≤ 100000) : ∃ r c, procT (w.length + 1) (mkT w) (List.replicate w.length 0) = some r ∧ LensOk w r c := by
  have hW : ∀ i, 0 ≤ i → i < (w.length : Int) → Wt w i ≤ 100000 := by
    intro i h0 h1
    have hl : i.toNat < w.length := by omega
    have := hw _ (List.getElem_mem hl)
    have e : rd w i = w[i.toNat] := getD_at hl 0
    unfold Wt; rw [e]; omega
  obtain ⟨m, hm⟩ : ∃ m, w.length = m + 1 := ⟨w.length - 1, by omega⟩
  obtain ⟨r, x, c, e1, e2, e3, e4⟩ := proc_ok hn hW m (mkT w) _ (by rw [mkT_length]; exact hm) (mkT_inv w hn hw) (w.length + 1) (by omega)
  have pm : x.f1.Perm ((List.range w.length).map (fun i : Nat => (i : Int))) := by have := e2.pm; simpa using this
  have hxl : x.f1.length = w.length := by rw [pm.length_eq]; simp
  have kr : (((List.range w.length).map (fun i : Nat => (i : Int))).map fun i => 2 ^ (23 - (rd r i).toNat)).sum = 2 ^ 23 := by
    rw [← sum_perm (pm.map _)]; exact e2.kr x List.mem_cons_self
  refine ⟨r, c, e1, e2.len, ?_, kr, ?_, ?_⟩
  · intro v hv
    obtain ⟨i, hi, rfl⟩ := List.getElem_of_mem hv
    have hi2 : i < w.length := by rw [← e2.len]; exact hi
    have hm2 : (i : Int) ∈ x.f1 := pm.mem_iff.2 (mem_rng.2 ⟨by omega, by omega⟩)
    have := e2.lo x List.mem_cons_self _ hm2
    rw [rdj, getD_at hi, hxl] at this
    refine ⟨?_, by omega⟩
    rcases Nat.lt_or_ge 0 (r[i]).toNat with h0 | h0
    · omega
    exfalso
    -- a length of 0 alone fills all room; another one stands beside it
    have hq : ∃ j : Nat, j < w.length ∧ j ≠ i := by
      by_cases c0 : i = 0
      · exact ⟨1, by omega, by omega⟩
      · exact ⟨0, by omega, by omega⟩
    obtain ⟨j, hj, hji⟩ := hq
    have hmi : (i : Int) ∈ (List.range w.length).map (fun i : Nat => (i : Int)) := mem_rng.2 ⟨by omega, by omega⟩
    have hmj : (j : Int) ∈ ((List.range w.length).map (fun i : Nat => (i : Int))).erase (i : Int) := (List.mem_erase_of_ne (by omega)).2 (mem_rng.2 ⟨by omega, by omega⟩)
    have p1 := List.perm_cons_erase hmi
    have p2 := p1.trans ((List.perm_cons_erase hmj).cons _)
    rw [sum_perm (p2.map _)] at kr
    simp only [List.map_cons, List.sum_cons] at kr
    have hp := Nat.two_pow_pos (23 - (rd r (j : Int)).toNat)
    rw [rdj r i, getD_at hi, show (r[i]).toNat = 0 by omega] at kr
    omega
  · have c0 : costN w.length w (List.replicate w.length 0) = 0 := by
      unfold costN
      rw [List.map_map]
      have : ∀ l : List Nat, (l.map ((fun i : Int => Wt w i * (rd (List.replicate w.length 0) i).toNat) ∘ fun i : Nat => (i : Int))).sum = 0 := by
        intro l
        induction l with
        | nil => rfl
        | cons a l ih =>
          simp only [List.map_cons, List.sum_cons, ih, Function.comp]
          have : rd (List.replicate w.length 0) (a : Int) = 0 := by
            show (List.replicate w.length (0 : Int)).getD a 0 = 0
            rw [List.getD_eq_getElem?_getD, List.getElem?_replicate]
            split <;> rfl
          rw [this]; simp
      exact this _
    rw [e4, c0]; omega
  · have : (mkT w).map (fun x => x.f0.toNat) = w.map Int.toNat := by
      unfold mkT
      rw [List.map_map]
      have e2 : ∀ l : List (Int × Nat), l.map ((fun x : S91 => x.f0.toNat) ∘ fun p : Int × Nat => (⟨p.1, [(p.2 : Int)]⟩ : S91)) = (l.map Prod.fst).map Int.toNat := by
        intro l
        induction l with
        | nil => rfl
        | cons p l ih => simp only [List.map_cons, ih]; rfl
      rw [e2, List.zipIdx_map_fst]
    rw [← this]; exact e3

theorem Max_l (l : List Int) (hn : l.length ≤ 1048576) (h23 : ∀ v ∈ l, v ≤ 23) (d : Nat) : ∀ (j : Nat) (m : Int), j + d = l.length → m ≤ 23 → ∃ r, Ev (fun k => slices_Max_int_int.l0 k l m (j : Int)) r ∧ r ≤ 23 := by
  induction d with
  | zero =>
    intro j m hj hm
    refine ⟨m, Ev.step (f := fun _ => some m) (fun k => ?_) (Ev.now _), hm⟩
    simp only [slices_Max_int_int.l0]
    rw [if_neg (by omega)]
  | succ d ih =>
    intro j m hj hm
    have hlt : j < l.length := by omega
    have hv := h23 _ (List.getElem_mem hlt)
    obtain ⟨r, h, h2⟩ := ih (j + 1) (mx m (rd l (j : Int))) (by omega) (by rw [rdj, getD_at hlt]; unfold mx; split <;> omega)
    refine ⟨r, Ev.step (fun k => ?_) h, h2⟩
    simp only [slices_Max_int_int.l0]
    rw [if_pos (by omega), if_pos (by omega), wj (n := l.length) hlt (by omega)]
theorem Max_ev (l : List Int) (h1 : 1 ≤ l.length) (hn : l.length ≤ 1048576) (h23 : ∀ v ∈ l, v ≤ 23) : ∃ r, Ev (fun k => slices_Max_int_int.f k l) r ∧ r ≤ 23 := by
  have hv := h23 _ (List.getElem_mem (show 0 < l.length by omega))
  obtain ⟨r, h, h2⟩ := Max_l l hn h23 (l.length - 1) 1 (rd l 0) (by omega) (by rw [show (0 : Int) = ((0 : Nat) : Int) from rfl, rdj, getD_at (by omega)]; exact hv)
  refine ⟨r, Ev.congr (fun k => ?_) h, h2⟩
  simp only [slices_Max_int_int.f]
  rw [if_neg (by omega), if_pos (by omega)]; rfl
def cS (x : S91) : S97 := ⟨x.f0, x.f1⟩
theorem rd97_at (xs : List S91) {j : Nat} (h : j < xs.length) : rd_T97 (xs.map cS) (j : Int) = cS xs[j] := by
  show (xs.map cS).getD j _ = _
  rw [List.getD_eq_getElem?_getD, List.getElem?_map, List.getElem?_eq_getElem h]; rfl
theorem map_cut (xs : List S91) (b : Nat) : (xs.map cS).take b ++ (xs.map cS).drop (b + 1) = (xs.eraseIdx b).map cS := by
  rw [List.eraseIdx_eq_take_drop_succ, List.map_append, List.map_take, List.map_drop]
theorem best_ev (out : List Int) (xs : List S91) (hn : xs.length ≤ 100) (x9 x : Int) (ps : List Int) (r : List Int × Bool) (B : Nat) (hB : B < xs.length) (hp : ps.length + (rd_T91 xs (B : Int)).f1.length < 17592186044416)
    (H : Ev (fun k => spec_LengthsOf.l2 k out ((xs.eraseIdx B).map cS) (wrap64 (x9 + 1)) (wrap64 (x + (rd_T91 xs (B : Int)).f0)) (ps ++ (rd_T91 xs (B : Int)).f1)) r) (d : Nat) :
    ∀ (j b : Nat), j + d = xs.length → b < xs.length → bstT ((xs.map (·.f0)).drop j) j b (rd_T91 xs (b : Int)).f0 = B → Ev (fun k => spec_LengthsOf.l3 k out (xs.map cS) x9 (b : Int) (xs.map cS) (((xs.map cS).length : Nat) : Int) (j : Int) x ps) r := by
  have hml : (xs.map cS).length = xs.length := List.length_map _
  induction d with
  | zero =>
    intro j b hj hb hbb
    rw [List.drop_eq_nil_of_le (by simp; omega)] at hbb
    simp only [bstT] at hbb
    subst hbb
    refine Ev.step (fun k => ?_) H
    simp only [spec_LengthsOf.l3, Option.bind_some, rd97_at xs hb, rdT91_at xs hb, List.nil_append, List.length_nil, List.length_take, List.length_drop, List.length_append, Int.toNat_natCast, wj hb (show xs.length ≤ 4611686018427387904 by omega), hml]
    rw [rdT91_at xs hb] at hp
    have hp2 : ps.length + (cS xs[b]).f1.length < 17592186044416 := hp
    rw [if_neg (by omega), if_pos (by omega), if_pos (by omega), if_pos hp2, if_pos (by omega), if_pos (by omega), if_pos (by omega), if_pos (by omega), if_pos (by omega), map_cut]
    rfl
  | succ d ih =>
    intro j b hj hb hbb
    have hj2 : j < xs.length := by omega
    rw [drop_w xs j hj2] at hbb
    simp only [bstT] at hbb
    have e1 : ∀ {i : Nat} (hi : i < xs.length), (rd_T97 (xs.map cS) (i : Int)).f0 = (rd_T91 xs (i : Int)).f0 := fun hi => by rw [rd97_at xs hi, rdT91_at xs hi]; rfl
    by_cases c : (rd_T91 xs (j : Int)).f0 < (rd_T91 xs (b : Int)).f0
    · rw [if_pos c] at hbb
      refine Ev.step (fun k => ?_) (ih (j + 1) j (by omega) hj2 hbb)
      simp only [spec_LengthsOf.l3]
      rw [if_pos (by omega), if_pos (by omega), if_pos (by omega), if_pos (by omega), if_pos (by omega), e1 hj2, e1 hb, if_pos c, wj hj2 (by omega)]
    · rw [if_neg c] at hbb
      refine Ev.step (fun k => ?_) (ih (j + 1) b (by omega) hb hbb)
      simp only [spec_LengthsOf.l3]
      rw [if_pos (by omega), if_pos (by omega), if_pos (by omega), if_pos (by omega), if_pos (by omega), e1 hj2, e1 hb, if_neg c, wj hj2 (by omega)]
theorem add_ev (xs : List S91) (hn : xs.length ≤ 100) (x : Int) (ps o2 : List Int) (hp : ps.length ≤ 4611686018427387904) (r : List Int × Bool) (H : Ev (fun k => spec_LengthsOf.l1 k o2 ((xs ++ [(⟨x, ps⟩ : S91)]).map cS)) r) (d : Nat) :
    ∀ (j : Nat) (out : List Int), j + d = ps.length → bumpO (ps.drop j) out = some o2 → Ev (fun k => spec_LengthsOf.l4 k out (xs.map cS) ps (ps.length : Int) (j : Int) x ps) r := by
  have hml : (xs.map cS).length = xs.length := List.length_map _
  induction d with
  | zero =>
    intro j out hj ho
    rw [List.drop_eq_nil_of_le (by omega)] at ho
    simp only [bumpO, Option.some.injEq] at ho
    subst ho
    refine Ev.step (fun k => ?_) H
    simp only [spec_LengthsOf.l4]
    rw [if_neg (by omega), if_pos (by omega), List.map_append]; rfl
  | succ d ih =>
    intro j out hj ho
    have hj2 : j < ps.length := by omega
    rw [List.drop_eq_getElem_cons hj2] at ho
    simp only [bumpO] at ho
    by_cases c0 : 0 ≤ ps[j]
    · rw [if_pos c0] at ho
      by_cases c1 : ps[j] < (out.length : Int)
      · rw [if_pos c1] at ho
        refine Ev.step (fun k => ?_) (ih (j + 1) _ (by omega) ho)
        simp only [spec_LengthsOf.l4]
        rw [if_pos (by omega), if_pos (by omega), if_pos (by omega), rdj, getD_at hj2, if_pos c0, if_pos c1, wj hj2 (by omega)]
      · rw [if_neg c1] at ho; cases ho
    · rw [if_neg c0] at ho; cases ho
theorem w64_two (a b : Int) : wrap64 (wrap64 (0 + a) + b) = wrap64 (a + b) := by
  unfold wrap64; omega
theorem spec_proc : ∀ (fuel : Nat) (xs : List S91) (out r : List Int), procT fuel xs out = some r → xs.length ≤ 100 → Ev (fun k => spec_LengthsOf.l1 k out (xs.map cS)) (r, true)
  | 0, xs, out, r, h, _ => by simp [procT] at h
  | fuel + 1, xs, out, r, h, hn => by
    have hml : (xs.map cS).length = xs.length := List.length_map _
    simp only [procT] at h
    by_cases c : 1 < xs.length
    · rw [if_pos c] at h
      by_cases c2 : (bothT xs).length < 1099511627776
      · rw [if_pos c2] at h
        obtain ⟨o2, hb, h⟩ := Option.bind_eq_some_iff.1 h
        have hrl := restT_length c
        have H1 := spec_proc fuel _ _ _ h (by simp; omega)
        have H4 := add_ev (restT xs) (by omega) (sumT xs) (bothT xs) o2 (by omega) _ H1 (bothT xs).length 0 out (by omega) hb
        have hl1 := lgT_lt (xs := xs) (by omega)
        have hel : (xs.eraseIdx (lgT xs)).length = xs.length - 1 := by rw [List.length_eraseIdx, if_pos hl1]
        have hl2 := lgT_lt (xs := xs.eraseIdx (lgT xs)) (by omega)
        have hbl : (bothT xs).length = (rd_T91 xs (lgT xs)).f1.length + (rd_T91 (xs.eraseIdx (lgT xs)) (lgT (xs.eraseIdx (lgT xs)))).f1.length := List.length_append
        have L2 : Ev (fun k => spec_LengthsOf.l2 k out ((restT xs).map cS) 2 (sumT xs) (bothT xs)) (r, true) := by
          refine Ev.step (fun k => ?_) H4
          simp only [spec_LengthsOf.l2]
          rw [if_neg (by omega)]; rfl
        have L1 := best_ev out (xs.eraseIdx (lgT xs)) (by omega) 1 (wrap64 (0 + (rd_T91 xs (lgT xs)).f0)) ([] ++ (rd_T91 xs (lgT xs)).f1) (r, true) (lgT (xs.eraseIdx (lgT xs))) hl2 (by rw [List.nil_append]; omega)
          (by rw [w64_two, List.nil_append, show wrap64 (1 + 1) = 2 from by rw [w64 (by omega) (by omega)]; rfl]; exact L2) (xs.eraseIdx (lgT xs)).length 0 0 (by omega) (by omega) rfl
        have L1' : Ev (fun k => spec_LengthsOf.l2 k out ((xs.eraseIdx (lgT xs)).map cS) 1 (wrap64 (0 + (rd_T91 xs (lgT xs)).f0)) ([] ++ (rd_T91 xs (lgT xs)).f1)) (r, true) := by
          refine Ev.step (fun k => ?_) L1
          simp only [spec_LengthsOf.l2]
          rw [if_pos (by omega)]; rfl
        have L0 := best_ev out xs (by omega) 0 0 [] (r, true) (lgT xs) hl1 (by simp; omega) (by rw [show wrap64 (0 + 1) = 1 from by rw [w64 (by omega) (by omega)]; rfl]; exact L1') xs.length 0 0 (by omega) (by omega) rfl
        refine Ev.step (f := fun k => spec_LengthsOf.l2 k out (xs.map cS) 0 0 []) (fun k => ?_) (Ev.step (fun k => ?_) L0)
        · simp only [spec_LengthsOf.l1]
          rw [if_pos (by omega)]
        · simp only [spec_LengthsOf.l2]
          rw [if_pos (by omega)]; rfl
      · rw [if_neg c2] at h; cases h
    · rw [if_neg c] at h
      simp only [Option.some.injEq] at h
      subst h
      refine Ev.step (f := fun _ => some (out, true)) (fun k => ?_) (Ev.now _)
      simp only [spec_LengthsOf.l1]
      rw [if_neg (by omega)]
theorem heaps_ev (w out : List Int) (hn : w.length ≤ 24) (r : List Int) (H : Ev (fun k => spec_LengthsOf.l1 k out ((mkT w).map cS)) (r, true)) (d : Nat) : ∀ (j : Nat), j + d = w.length →
    Ev (fun k => spec_LengthsOf.l0 k out (((mkT w).take j).map cS) w (w.length : Int) (j : Int)) (r, true) := by
  induction d with
  | zero =>
    intro j hj
    rw [List.take_of_length_le (by rw [mkT_length]; omega)]
    refine Ev.step (fun k => ?_) H
    simp only [spec_LengthsOf.l0]
    rw [if_neg (by omega)]
  | succ d ih =>
    intro j hj
    have hlt : j < w.length := by omega
    have h := ih (j + 1) (by omega)
    rw [mkT_step w j hlt, List.map_append] at h
    have hl : (((mkT w).take j).map cS).length ≤ 24 := by simp; omega
    refine Ev.step (fun k => ?_) h
    simp only [spec_LengthsOf.l0]
    rw [if_pos (by omega), if_pos (by omega), if_pos (by omega), if_pos (by omega), wj hlt (by omega)]
    rfl
theorem LengthsOf_both (w : List Int) (hn : w.length ≤ 1048576) : ∃ r b, Ev (fun k => impl_LengthsOf.f k w) (r, b) ∧ Ev (fun k => spec_LengthsOf.f k w) (r, b) ∧ r.length ≤ w.length ∧ (b = false → r = []) ∧ (b = true → wtB w = true ∧ ∃ c, LensOk w r c) := by
  have hs := l15Weights_ev w hn
  cases hb : wtB w with
  | false =>
    rw [hb] at hs
    refine ⟨[], false, ?_, ?_, by simp, fun _ => rfl, fun h => by cases h⟩
    · refine Ev.congr (f := fun _ => some ([], false)) (fun k => ?_) (Ev.now _)
      simp [impl_LengthsOf.f, areWeights_eq, hb]
    · unfold spec_LengthsOf.f
      refine Ev.bind hs ?_
      exact Ev.congr (f := fun _ => some ([], false)) (fun k => by simp) (Ev.now _)
  | true =>
    rw [hb] at hs
    have hw := (wtB_iff w).1 hb
    obtain ⟨r, c, e, hr⟩ := lens_proc w (by omega) (by omega) hw.2
    obtain ⟨m, hm, hm2⟩ := Max_ev r (by rw [hr.len]; omega) (by rw [hr.len]; omega) (fun v hv => (hr.hi v hv).2)
    refine ⟨r, true, ?_, ?_, (by rw [hr.len]; exact Nat.le_refl _), (fun h => by cases h), fun _ => ⟨rfl, c, hr⟩⟩
    · refine Ev.congr (f := fun k => (slices_Max_int_int.f k r).bind fun m => some (r, decide (m ≤ 23))) (fun k => ?_) (Ev.bind hm (Ev.congr (fun k => by rw [decide_eq_true hm2]) (Ev.now _)))
      simp only [impl_LengthsOf.f, areWeights_eq, hb, Option.bind_some, if_true]
      rw [if_pos ⟨by omega, by omega⟩, e]; rfl
    · unfold spec_LengthsOf.f
      refine Ev.bind hs ?_
      have h0 := heaps_ev w (List.replicate w.length 0) (by omega) r (spec_proc _ _ _ _ e (by rw [mkT_length]; omega)) w.length 0 (by omega)
      refine Ev.congr (fun k => ?_) h0
      rw [if_pos rfl, if_pos (by omega), Int.toNat_natCast, if_pos (by omega)]; rfl

theorem FnExactLengthsOf : laws_FnExactLengthsOf.Pure := by
  intro l _ _ _
  refine Ev.law ?_
  unfold laws_FnExactLengthsOf.f
  by_cases hn : (l.length : Int) > 1048576
  · exact Ev.congr (fun k => by rw [if_pos hn]) (Ev.now _)
  simp only [if_neg hn]
  obtain ⟨c, b, h1, h2, hc', _, _⟩ := LengthsOf_both l (by omega)
  have hc : c.length ≤ 1048576 := by omega
  obtain ⟨lm, hm⟩ := markIntS_ev l (by omega)
  obtain ⟨c', m1, m2⟩ := markInt_both c hc
  have t0 := toIntS_ev l (by omega)
  refine Ev.bind t0 (Ev.bind h2 (Ev.bind t0 (Ev.bind h1 (Ev.bind (eqIntS_ev c hc) ?_))))
  simp only [if_true, bne_self_eq_false]
  have J2 : Ev (fun k => laws_FnExactLengthsOf.j2 k c' ((1 + c.length : Nat) : Int) false) true := by
    refine Ev.step (f := fun k => (laws_heldIntS.f k c' 1).bind fun t192 => if t192 < 0 then some false else if t192 = ((1 + c.length : Nat) : Int) then some true else some false) (fun k => by simp [laws_FnExactLengthsOf.j2]) (Ev.bind m2 ?_)
    exact Ev.congr (f := fun _ => some true) (fun k => by rw [if_neg (by omega), if_pos rfl]) (Ev.now _)
  have J1 : Ev (fun k => laws_FnExactLengthsOf.j1 k l c b c false) true := by
    refine Ev.step (fun k => by simp only [laws_FnExactLengthsOf.j1]; rw [if_neg (by simp)]) (Ev.bind m1 (Ev.bind m2 ?_))
    have e1 : ¬ (((1 + c.length : Nat) : Int) < 0) := by omega
    simp only [if_neg e1, if_true]
    refine Ev.bind t0 (Ev.bind h1 (Ev.bind (eqIntS_ev c hc) ?_))
    simp only [if_true, bne_self_eq_false]
    exact J2
  refine Ev.step (fun k => by simp only [laws_FnExactLengthsOf.j0]; rw [if_neg (by simp)]) (Ev.bind t0 (Ev.bind (eqIntS_ev l (by omega)) ?_))
  simp only [if_true]
  refine Ev.bind hm ?_
  have e2 : ¬ (((1 + l.length : Nat) : Int) < 0) := by omega
  simp only [if_neg e2]
  refine Ev.bind (eqIntS_ev c hc) ?_
  simp only [if_true, bne_self_eq_false]
  exact J1

end Go.Proofs.Ytobbhgghpjecjaa.Pure
