/- The pure part of the law of Huffman's codes: his process, its optimality, what both programs tell. -/
import Derived.Test.YtobbhgghpjecjaaPFnHuffmanx8
import Derived.Lib.RabinKarpLaws
namespace Go.Proofs.Ytobbhgghpjecjaa.Pure
open Go.RowKit Go.Proofs.Ytobbhgghpjecjaa.PFnHuffman Go.Proofs.YtobbhgghpjecjaaW.PrintWords Go.Proofs.YtobbhgghpjecjaaW.PrintLast Go.Proofs.YtobbhgghpjecjaaW.PrintMore Go.Proofs.YtobbhgghpjecjaaOwn
set_option linter.unusedVariables false
set_option linter.unusedSimpArgs false

/-! Huffman's optimality, in numbers alone. -/
namespace Huff
/-- The room that codes of these depths need, in parts of 2^M. -/
def kr (M : Nat) (P : List (Nat × Nat)) : Nat := (P.map fun p => 2 ^ (M - p.2)).sum
def cost (P : List (Nat × Nat)) : Nat := (P.map fun p => p.1 * p.2).sum
def deep (P : List (Nat × Nat)) : Nat := (P.map fun p => p.2).sum
@[simp] theorem kr_nil (M : Nat) : kr M [] = 0 := rfl
@[simp] theorem kr_cons (M : Nat) (p : Nat × Nat) (P : List (Nat × Nat)) : kr M (p :: P) = 2 ^ (M - p.2) + kr M P := by simp [kr]
@[simp] theorem cost_cons (p : Nat × Nat) (P : List (Nat × Nat)) : cost (p :: P) = p.1 * p.2 + cost P := by simp [cost]
@[simp] theorem deep_cons (p : Nat × Nat) (P : List (Nat × Nat)) : deep (p :: P) = p.2 + deep P := by simp [deep]
theorem perm_sum {l l' : List Nat} (h : l.Perm l') : l.sum = l'.sum := by
  induction h with
  | nil => rfl
  | cons x _ ih => simp [ih]
  | swap x y l => simp; omega
  | trans _ _ h1 h2 => exact h1.trans h2
theorem kr_perm (M : Nat) {P Q : List (Nat × Nat)} (h : P.Perm Q) : kr M P = kr M Q := perm_sum (h.map _)
theorem cost_perm {P Q : List (Nat × Nat)} (h : P.Perm Q) : cost P = cost Q := perm_sum (h.map _)

/-- The greatest depth goes to the first one. -/
def bub (dx : Nat) : List (Nat × Nat) → Nat × List (Nat × Nat)
  | [] => (dx, [])
  | s :: S => if dx < s.2 then ((bub s.2 S).1, (s.1, dx) :: (bub s.2 S).2) else ((bub dx S).1, s :: (bub dx S).2)

theorem swap_cost {x y a b : Nat} (h : x ≤ y) (hd : a ≤ b) : x * b + y * a ≤ x * a + y * b := by
  obtain ⟨k, rfl⟩ := Nat.exists_eq_add_of_le h
  obtain ⟨m, rfl⟩ := Nat.exists_eq_add_of_le hd
  have e1 : x * (a + m) + (x + k) * a = x * a + x * m + x * a + k * a := by rw [Nat.mul_add, Nat.add_mul]; omega
  have e2 : x * a + (x + k) * (a + m) = x * a + x * m + x * a + k * a + k * m := by rw [Nat.add_mul, Nat.mul_add, Nat.mul_add]; omega
  omega

theorem bub_ok (M x : Nat) : ∀ (S : List (Nat × Nat)) (dx : Nat), (∀ s ∈ S, x ≤ s.1) →
    dx ≤ (bub dx S).1 ∧ (∀ s ∈ (bub dx S).2, s.2 ≤ (bub dx S).1) ∧ (bub dx S).2.map Prod.fst = S.map Prod.fst ∧
    2 ^ (M - (bub dx S).1) + kr M (bub dx S).2 = 2 ^ (M - dx) + kr M S ∧ x * (bub dx S).1 + cost (bub dx S).2 ≤ x * dx + cost S ∧
    (bub dx S).1 + deep (bub dx S).2 = dx + deep S ∧ (∀ B, dx ≤ B → (∀ s ∈ S, s.2 ≤ B) → (bub dx S).1 ≤ B ∧ ∀ s ∈ (bub dx S).2, s.2 ≤ B)
  | [], dx, _ => by simp [bub]
  | s :: S, dx, h => by
    by_cases c : dx < s.2
    · obtain ⟨h1, h2, h3, h4, h5, h6, h7⟩ := bub_ok M x S s.2 (fun t ht => h t (List.mem_cons_of_mem _ ht))
      have hb : bub dx (s :: S) = ((bub s.2 S).1, (s.1, dx) :: (bub s.2 S).2) := by simp [bub, c]
      rw [hb]
      have hx := h s List.mem_cons_self
      refine ⟨by omega, ?_, by simp [h3], ?_, ?_, ?_, ?_⟩
      · intro t ht
        rcases List.mem_cons.1 ht with rfl | ht
        · show dx ≤ _; omega
        · exact h2 t ht
      · simp only [kr_cons]; omega
      · simp only [cost_cons]
        have := swap_cost hx (Nat.le_of_lt c)
        omega
      · simp only [deep_cons]; omega
      · intro B hB hS
        have := h7 B (hS s List.mem_cons_self) (fun t ht => hS t (List.mem_cons_of_mem _ ht))
        refine ⟨this.1, ?_⟩
        intro t ht
        rcases List.mem_cons.1 ht with rfl | ht
        · exact hB
        · exact this.2 t ht
    · obtain ⟨h1, h2, h3, h4, h5, h6, h7⟩ := bub_ok M x S dx (fun t ht => h t (List.mem_cons_of_mem _ ht))
      have hb : bub dx (s :: S) = ((bub dx S).1, s :: (bub dx S).2) := by simp [bub, c]
      rw [hb]
      refine ⟨h1, ?_, by simp [h3], ?_, ?_, ?_, ?_⟩
      · intro t ht
        rcases List.mem_cons.1 ht with rfl | ht
        · show t.2 ≤ _; omega
        · exact h2 t ht
      · simp only [kr_cons]; omega
      · simp only [cost_cons]; omega
      · simp only [deep_cons]; omega
      · intro B hB hS
        have := h7 B hB (fun t ht => hS t (List.mem_cons_of_mem _ ht))
        refine ⟨this.1, ?_⟩
        intro t ht
        rcases List.mem_cons.1 ht with rfl | ht
        · exact hS t List.mem_cons_self
        · exact this.2 t ht

theorem kr_even (M D : Nat) (hD : D < M + 1) : ∀ (S : List (Nat × Nat)), (∀ s ∈ S, s.2 < D) → ∃ k, kr M S = 2 * 2 ^ (M - D) * k
  | [], _ => ⟨0, by simp [kr_nil]⟩
  | s :: S, h => by
    obtain ⟨k, hk⟩ := kr_even M D hD S (fun t ht => h t (List.mem_cons_of_mem _ ht))
    have hs := h s List.mem_cons_self
    refine ⟨2 ^ (D - s.2 - 1) + k, ?_⟩
    rw [kr_cons, hk, Nat.mul_add]
    congr 1
    rw [← Nat.pow_succ', ← Nat.pow_add]
    congr 1
    omega

theorem merge (M : Nat) (a b : Nat) : ∀ (T da db : Nat) (R : List (Nat × Nat)), da + db + deep R ≤ T → a ≤ b → (∀ r ∈ R, b ≤ r.1) → da ≤ M → db ≤ M → (∀ r ∈ R, r.2 ≤ M) →
    kr M ((a, da) :: (b, db) :: R) ≤ 2 ^ M →
    ∃ e R', R'.map Prod.fst = R.map Prod.fst ∧ (∀ r ∈ R', r.2 ≤ M) ∧ e + 1 ≤ M ∧ kr M ((a, e + 1) :: (b, e + 1) :: R') ≤ 2 ^ M ∧ cost ((a, e + 1) :: (b, e + 1) :: R') ≤ cost ((a, da) :: (b, db) :: R) := by
  intro T
  induction T with
  | zero =>
    intro da db R hT _ _ _ _ _ hk
    have h1 : da = 0 := by omega
    have h2 : db = 0 := by omega
    subst h1 h2
    simp only [kr_cons, Nat.sub_zero] at hk
    have := Nat.two_pow_pos M
    omega
  | succ T ih =>
    intro da db R hT hab hR hda hdb hRM hk
    obtain ⟨f1, f2, f3, f4, f5, f6, f7⟩ := bub_ok M a ((b, db) :: R) da (by
      intro s hs
      rcases List.mem_cons.1 hs with rfl | hs
      · exact hab
      · exact Nat.le_trans hab (hR s hs))
    have f8 := f7 M hda (by
      intro s hs
      rcases List.mem_cons.1 hs with rfl | hs
      · exact hdb
      · exact hRM s hs)
    generalize bub da ((b, db) :: R) = BB at f1 f2 f3 f4 f5 f6 f7 f8
    obtain ⟨D, S1⟩ := BB
    dsimp only at f1 f2 f3 f4 f5 f6 f7 f8
    match S1, f3 with
    | (b', db1) :: R1, f9 =>
      simp only [List.map_cons, List.cons.injEq] at f9
      obtain ⟨rfl, f9⟩ := f9
      have hR1 : ∀ r ∈ R1, b' ≤ r.1 := by
        intro r hr
        have : r.1 ∈ R1.map Prod.fst := List.mem_map.2 ⟨r, hr, rfl⟩
        rw [f9] at this
        obtain ⟨q, hq, e⟩ := List.mem_map.1 this
        rw [← e]; exact hR q hq
      obtain ⟨g1, g2, g3, g4, g5, g6, g7⟩ := bub_ok M b' R1 db1 hR1
      have g8 := g7 D (f2 _ List.mem_cons_self) (fun s hs => f2 s (List.mem_cons_of_mem _ hs))
      generalize bub db1 R1 = CC at g1 g2 g3 g4 g5 g6 g7 g8
      obtain ⟨D2, R2⟩ := CC
      dsimp only at g1 g2 g3 g4 g5 g6 g7 g8
      have hkk : kr M ((a, D) :: (b', D2) :: R2) = kr M ((a, da) :: (b', db) :: R) := by
        simp only [kr_cons] at f4 ⊢; omega
      have hcc : cost ((a, D) :: (b', D2) :: R2) ≤ cost ((a, da) :: (b', db) :: R) := by
        simp only [cost_cons] at f5 ⊢; omega
      have hdd : D + D2 + deep R2 = da + db + deep R := by
        simp only [deep_cons] at f6 ⊢; omega
      have hRM2 : ∀ r ∈ R2, r.2 ≤ M := fun r hr => Nat.le_trans (g8.2 r hr) f8.1
      have hm2 : R2.map Prod.fst = R.map Prod.fst := by rw [g3, f9]
      by_cases c : D2 = D
      · subst c
        cases D2 with
        | zero =>
          rw [← hkk] at hk
          simp only [kr_cons, Nat.sub_zero] at hk
          have := Nat.two_pow_pos M
          omega
        | succ e => exact ⟨e, R2, hm2, hRM2, f8.1, by rw [hkk]; exact hk, hcc⟩
      · have hlt : D2 < D := by have := g8.1; omega
        obtain ⟨D', rfl⟩ : ∃ m, D = m + 1 := ⟨D - 1, by omega⟩
        obtain ⟨k, hk1⟩ := kr_even M (D' + 1) (by have := f8.1; omega) ((b', D2) :: R2) (by
          intro s hs
          rcases List.mem_cons.1 hs with rfl | hs
          · exact hlt
          · have := g2 s hs; omega)
        have hM : 2 ^ M = 2 * 2 ^ (M - (D' + 1)) * 2 ^ D' := by
          rw [← Nat.pow_succ', ← Nat.pow_add]; congr 1; have := f8.1; omega
        have hk2 : kr M ((a, D' + 1) :: (b', D2) :: R2) ≤ 2 ^ M := by rw [hkk]; exact hk
        have hk3 : kr M ((a, D') :: (b', D2) :: R2) ≤ 2 ^ M := by
          rw [kr_cons, hk1] at hk2 ⊢
          dsimp only at hk2 ⊢
          have hu : 2 ^ (M - D') = 2 * 2 ^ (M - (D' + 1)) := by
            rw [← Nat.pow_succ']; congr 1; have := f8.1; omega
          rw [hu]
          rw [hM] at hk2 ⊢
          generalize 2 ^ (M - (D' + 1)) = u at *
          generalize 2 ^ D' = j at *
          have hu0 : 0 < u := by
            rcases Nat.eq_zero_or_pos u with h0 | h0
            · subst h0; simp at hM
            · exact h0
          have hkj : k < j := by
            rcases Nat.lt_or_ge k j with h | h
            · exact h
            · have := Nat.mul_le_mul_left (2 * u) h; omega
          have := Nat.mul_le_mul_left (2 * u) (Nat.succ_le_of_lt hkj)
          rw [Nat.succ_eq_add_one, Nat.mul_add] at this
          omega
        obtain ⟨e, R', i1, i2, i3, i4, i5⟩ := ih D' D2 R2 (by omega) hab (by
          intro r hr
          have : r.1 ∈ R2.map Prod.fst := List.mem_map.2 ⟨r, hr, rfl⟩
          rw [hm2] at this
          obtain ⟨q, hq, e⟩ := List.mem_map.1 this
          rw [← e]; exact hR q hq) (by have := f8.1; omega) (by have := f8.1; omega) hRM2 hk3
        refine ⟨e, R', by rw [i1, hm2], i2, i3, i4, Nat.le_trans i5 (Nat.le_trans ?_ hcc)⟩
        simp only [cost_cons]
        have : a * D' ≤ a * (D' + 1) := Nat.mul_le_mul_left _ (by omega)
        omega

/-- What Huffman's merging costs. -/
inductive Merged : List Nat → Nat → Prop
  | one (w : Nat) : Merged [w] 0
  | step {ws rest : List Nat} {a b c : Nat} : ws.Perm (a :: b :: rest) → a ≤ b → (∀ x ∈ rest, b ≤ x) → Merged ((a + b) :: rest) c → Merged ws (c + (a + b))

theorem map_cons_inv {P : List (Nat × Nat)} {x : Nat} {ys : List Nat} (h : (P.map Prod.fst).Perm (x :: ys)) : ∃ d P', P.Perm ((x, d) :: P') ∧ (P'.map Prod.fst).Perm ys := by
  have : x ∈ P.map Prod.fst := h.mem_iff.2 List.mem_cons_self
  obtain ⟨p, hp, rfl⟩ := List.mem_map.1 this
  have hq := List.perm_cons_erase hp
  refine ⟨p.2, P.erase p, hq, ?_⟩
  have h2 := (hq.map Prod.fst).symm.trans h
  simpa using h2

theorem optimal (M : Nat) {ws : List Nat} {c : Nat} (h : Merged ws c) : ∀ P : List (Nat × Nat), (P.map Prod.fst).Perm ws → (∀ p ∈ P, p.2 ≤ M) → kr M P ≤ 2 ^ M → c ≤ cost P := by
  induction h with
  | one w => intro P _ _ _; exact Nat.zero_le _
  | step hp hab hrest _ ih =>
    rename_i ws rest a b c hm
    intro P hP hM hk
    obtain ⟨da, P1, q1, hP1⟩ := map_cons_inv (hP.trans hp)
    obtain ⟨db, R, q2, hR⟩ := map_cons_inv hP1
    have q : P.Perm ((a, da) :: (b, db) :: R) := q1.trans (q2.cons _)
    have hM' : ∀ p ∈ (a, da) :: (b, db) :: R, p.2 ≤ M := fun p hp => hM p (q.mem_iff.2 hp)
    rw [kr_perm M q] at hk
    obtain ⟨e, R', i1, i2, i3, i4, i5⟩ := merge M a b _ da db R (Nat.le_refl _) hab (fun r hr => hrest _ (hR.mem_iff.1 (List.mem_map.2 ⟨r, hr, rfl⟩)))
      (hM' (a, da) (by simp)) (hM' (b, db) (by simp)) (fun r hr => hM' r (by simp [hr])) hk
    have := ih ((a + b, e) :: R') (by simp only [List.map_cons, i1]; exact hR.cons _) (by
      intro p hp
      rcases List.mem_cons.1 hp with rfl | hp
      · show e ≤ M; omega
      · exact i2 p hp) (by
      simp only [kr_cons] at i4 ⊢
      have hu : 2 ^ (M - e) = 2 * 2 ^ (M - (e + 1)) := by rw [← Nat.pow_succ']; congr 1; omega
      omega)
    rw [cost_perm q]
    simp only [cost_cons] at i5 this ⊢
    rw [Nat.add_mul] at this
    rw [Nat.mul_add, Nat.mul_add, Nat.mul_one, Nat.mul_one] at i5
    omega
end Huff

theorem wj {j n : Nat} (h : j < n) (hn : n ≤ 4611686018427387904) : wrap64 ((j : Int) + 1) = ((j + 1 : Nat) : Int) := by
  unfold wrap64; omega
theorem w64 {x : Int} (h0 : -9223372036854775808 ≤ x) (h1 : x ≤ 9223372036854775807) : wrap64 x = x := by
  unfold wrap64; omega
theorem rdj (l : List Int) (j : Nat) : rd l (j : Int) = l.getD j 0 := rfl
theorem getD_at {α : Type} {l : List α} {j : Nat} (h : j < l.length) (z : α) : l.getD j z = l[j] := by
  rw [List.getD_eq_getElem?_getD, List.getElem?_eq_getElem h]; rfl
theorem Ev.law {g : Nat → Option Bool} (h : Ev g true) : ∃ k, g k = some true := h.rounds
theorem l1In_eq (a b c : Int) : spec_l1In.f a b c = some (decide (b ≤ a ∧ a ≤ c)) := by
  unfold spec_l1In.f; by_cases h : b ≤ a <;> simp [h]
theorem within_eq (a b c : Int) : impl_within.f a b c = some (decide (b ≤ a ∧ a ≤ c)) := by
  unfold impl_within.f; by_cases h : b ≤ a <;> simp [h]

--IMPORT Derived.Lib.RabinKarpLaws
/-- Bytes. -/
def Byt (l : List Int) : Prop := ∀ x ∈ l, 0 ≤ x ∧ x ≤ 255
theorem byt_of {l : List Int} (h : ∀ x ∈ l, (Lit.int .u8 x).wf = true) : Byt l := by
  intro x hx
  have := h x hx
  simp only [Lit.wf, IntKind.min, IntKind.max, IntKind.signed, IntKind.bits, Bool.and_eq_true, decide_eq_true_eq] at this
  simp at this; omega
theorem byt_rd {l : List Int} (hl : Byt l) (j : Nat) (hj : j < l.length) : 0 ≤ rd l (j : Int) ∧ rd l (j : Int) ≤ 255 := by
  rw [rdj, getD_at hj]; exact hl _ (List.getElem_mem hj)
theorem and255 (x : Int) : 0 ≤ Go.bits .and .u64 x 255 ∧ Go.bits .and .u64 x 255 ≤ 255 := by
  have e : ∀ z : Nat, z ≤ 255 → IntKind.u64.wrap (z : Int) = (z : Int) := by
    intro z hz; simp only [IntKind.wrap, IntKind.bits, IntKind.signed]; simp; omega
  have hz : ∀ y : Nat, y &&& 255 ≤ 255 := fun y => Nat.and_le_right
  have : ∃ z : Nat, z ≤ 255 ∧ Go.bits .and .u64 x 255 = (z : Int) := by
    refine ⟨_, hz (x % 18446744073709551616).toNat, ?_⟩
    rw [← e _ (hz _)]
    simp only [Go.bits, IntKind.bits]
    rfl
  obtain ⟨z, h1, h2⟩ := this
  rw [h2]; omega
theorem next_ok {l : List Int} (hl : Byt l) (a s : Int) (h0 : 0 ≤ a) (h1 : a ≤ 4611686018427387904) :
    ∃ r s', spec_l1Cur_next.f l a s = some (r, a + 1, s') ∧ 0 ≤ r ∧ r ≤ 255 := by
  unfold spec_l1Cur_next.f
  have e1 : wrap64 (a + 1) = a + 1 := w64 (by omega) (by omega)
  by_cases c : a < (l.length : Int)
  · have hb := byt_rd hl a.toNat (by omega)
    rw [show ((a.toNat : Nat) : Int) = a from by omega] at hb
    rw [if_pos c, if_pos h0, e1, if_pos (by omega), w64 (x := rd l a) (by omega) (by omega)]
    exact ⟨_, _, rfl, hb.1, hb.2⟩
  · rw [if_neg c, e1, if_neg (by omega)]
    refine ⟨_, _, rfl, ?_⟩
    have hb := and255 (IntKind.u64.wrap (IntKind.u64.wrap (IntKind.u64.wrap (s * 6364136223846793005)) + 1442695040888963407) / 1099511627776)
    rw [w64 (by omega) (by omega)]
    exact hb
theorem pick_ok {l : List Int} (hl : Byt l) (a s n : Int) (h0 : 0 ≤ a) (h1 : a ≤ 4611686018427387900) :
    ∃ r a' s', spec_l1Cur_pick.f l a s n = some (r, a', s') ∧ 0 ≤ r ∧ (r < n ∨ n ≤ 1 ∧ r = 0) ∧ a ≤ a' ∧ a' ≤ a + 2 := by
  unfold spec_l1Cur_pick.f
  by_cases c : n ≤ 1
  · rw [if_pos c]; exact ⟨_, _, _, rfl, by omega, .inr ⟨c, rfl⟩, by omega, by omega⟩
  · obtain ⟨r, s1, e1, g0, g1⟩ := next_ok hl a s h0 (by omega)
    rw [if_neg c, e1]
    simp only [Option.bind_some]
    by_cases c2 : n > 200
    · obtain ⟨r2, s2, e2, k0, k1⟩ := next_ok hl (a + 1) s1 (by omega) (by omega)
      rw [if_pos c2, e2]
      simp only [Option.bind_some]
      rw [if_neg (by omega), w64 (x := r * 256) (by omega) (by omega), w64 (by omega) (by omega)]
      exact ⟨_, _, _, rfl, Int.tmod_nonneg _ (by omega), .inl (Int.tmod_lt_of_pos _ (by omega)), by omega, by omega⟩
    · rw [if_neg c2, if_neg (by omega)]
      exact ⟨_, _, _, rfl, Int.tmod_nonneg _ (by omega), .inl (Int.tmod_lt_of_pos _ (by omega)), by omega, by omega⟩
theorem one_ok {l : List Int} (hl : Byt l) (a s n : Int) (h0 : 0 ≤ a) (h1 : a ≤ 4611686018427387900) :
    ∃ b a' s', spec_l1Cur_one.f l a s n = some (b, a', s') ∧ a ≤ a' ∧ a' ≤ a + 2 := by
  unfold spec_l1Cur_one.f
  obtain ⟨r, a', s', e, _, _, g⟩ := pick_ok hl a s n h0 h1
  rw [e]; exact ⟨_, _, _, rfl, g⟩
theorem among_ok {l : List Int} (hl : Byt l) (a s : Int) (x : List Int) (hx : 1 < x.length) (h0 : 0 ≤ a) (h1 : a ≤ 4611686018427387900) :
    ∃ r a' s', spec_l1Cur_among.f l a s x = some (r, a', s') ∧ r ∈ x ∧ a ≤ a' ∧ a' ≤ a + 2 := by
  unfold spec_l1Cur_among.f
  obtain ⟨r, a', s', e, g0, g1, g⟩ := pick_ok hl a s (x.length : Int) h0 h1
  have hr : r.toNat < x.length := by omega
  rw [e]
  simp only [Option.bind_some]
  rw [if_pos g0, if_pos (by omega)]
  refine ⟨_, _, _, rfl, ?_, g⟩
  rw [show r = ((r.toNat : Nat) : Int) from by omega, rdj, getD_at hr]
  exact List.getElem_mem hr

theorem weights_l {l : List Int} (hl : Byt l) (d : Nat) : ∀ (x : List Int) (p q : Int) (f : Bool) (a s : Int), x.length + d ≤ 200 → 0 ≤ a → a ≤ 1000 + 4 * x.length →
    ∃ r a' s', Ev (fun k => spec_l1Cur_weights.l0 k x (d : Int) p q f l a s) (r, a', s') ∧ r.length ≤ 200 ∧ 0 ≤ a' ∧ a' ≤ 2000 := by
  induction d with
  | zero =>
    intro x p q f a s hx h0 h1
    by_cases c : (x.length : Int) > 0
    · obtain ⟨b, a1, s1, e, u1, v1⟩ := one_ok hl a s 30 h0 (by omega)
      by_cases cb : b = true
      · obtain ⟨r2, a2, s2, e2, _, u2, v2⟩ := among_ok hl a1 s1 [0, 100000, 100001] (by simp) (by omega) (by omega)
        refine ⟨x.set 0 r2, a2, s2, Ev.step (f := fun _ => some (x.set 0 r2, a2, s2)) (fun k => ?_) (Ev.now _), by simp; omega, by omega, by omega⟩
        simp only [spec_l1Cur_weights.l0]
        rw [if_neg (by omega), if_pos c, e]
        simp only [Option.bind_some]
        rw [if_pos cb, e2]
        simp only [Option.bind_some]
        rw [if_pos (by omega)]; rfl
      · refine ⟨x, a1, s1, Ev.step (f := fun _ => some (x, a1, s1)) (fun k => ?_) (Ev.now _), by omega, by omega, by omega⟩
        simp only [spec_l1Cur_weights.l0]
        rw [if_neg (by omega), if_pos c, e]
        simp only [Option.bind_some]
        rw [if_neg cb]
    · refine ⟨x, a, s, Ev.step (f := fun _ => some (x, a, s)) (fun k => ?_) (Ev.now _), by omega, by omega, by omega⟩
      simp only [spec_l1Cur_weights.l0]
      rw [if_neg (by omega), if_neg c]
  | succ d ih =>
    intro x p q f a s hx h0 h1
    have ew : wrap64 (((d + 1 : Nat) : Int) - 1) = (d : Int) := by rw [w64 (by omega) (by omega)]; omega
    have el : ∀ y : Int, ((x ++ [y]).length : Int) = x.length + 1 := fun y => by simp
    by_cases cf : f = true
    · obtain ⟨r, a', s', g, g2⟩ := ih (x ++ [p]) q (wrap64 (p + q)) f a s (by simp; omega) h0 (by rw [el]; omega)
      refine ⟨r, a', s', Ev.step (fun k => ?_) g, g2⟩
      simp only [spec_l1Cur_weights.l0]
      rw [if_pos (by omega), if_pos cf, if_pos (by omega), ew]
    · obtain ⟨r1, a1, s1, e1, _, _, u1, v1⟩ := pick_ok hl a s 20 h0 (by omega)
      obtain ⟨r, a', s', g, g2⟩ := ih (x ++ [wrap64 (1 + r1)]) p q f a1 s1 (by simp; omega) (by omega) (by rw [el]; omega)
      refine ⟨r, a', s', Ev.step (fun k => ?_) g, g2⟩
      simp only [spec_l1Cur_weights.l0]
      rw [if_pos (by omega), if_neg cf, e1]
      simp only [Option.bind_some]
      rw [if_pos (by omega), ew]
theorem weights_ok {l : List Int} (hl : Byt l) (a s : Int) (h0 : 0 ≤ a) (h1 : a ≤ 900) : ∃ r a' s', Ev (fun k => spec_l1Cur_weights.f k l a s) (r, a', s') ∧ r.length ≤ 200 ∧ 0 ≤ a' ∧ a' ≤ 2000 := by
  unfold spec_l1Cur_weights.f
  obtain ⟨r1, a1, s1, e1, p1, q1, u1, v1⟩ := pick_ok hl a s 8 (by omega) (by omega)
  obtain ⟨b, a2, s2, e2, u2, v2⟩ := one_ok hl a1 s1 20 (by omega) (by omega)
  simp only [e1, e2, Option.bind_some]
  have go : ∀ (n : Nat) (a s : Int), n ≤ 200 → 0 ≤ a → a ≤ 990 → ∃ r a' s', Ev (fun k => spec_l1Cur_weights.j0 k [] (n : Int) l a s) (r, a', s') ∧ r.length ≤ 200 ∧ 0 ≤ a' ∧ a' ≤ 2000 := by
    intro n a s hn h0 h1
    obtain ⟨b, a1, s1, e1, u1, v1⟩ := one_ok hl a s 8 (by omega) (by omega)
    obtain ⟨r, a', s', g, g2⟩ := weights_l hl n [] 1 1 b a1 s1 (by simpa using hn) (by omega) (by simp; omega)
    refine ⟨r, a', s', Ev.step (fun k => ?_) g, g2⟩
    simp only [spec_l1Cur_weights.j0, e1, Option.bind_some]
  by_cases cb : b = true
  · obtain ⟨r3, a3, s3, e3, h3, u3, v3⟩ := among_ok hl a2 s2 [1, 24, 25] (by simp) (by omega) (by omega)
    simp at h3
    obtain ⟨r, a', s', g, g2⟩ := go r3.toNat a3 s3 (by omega) (by omega) (by omega)
    refine ⟨r, a', s', Ev.congr (fun k => ?_) g, g2⟩
    rw [if_pos cb, e3]
    simp only [Option.bind_some]
    rw [show ((r3.toNat : Nat) : Int) = r3 from by omega]
  · obtain ⟨r, a', s', g, g2⟩ := go (2 + r1).toNat a2 s2 (by omega) (by omega) (by omega)
    refine ⟨r, a', s', Ev.congr (fun k => ?_) g, g2⟩
    rw [if_neg cb, w64 (by omega) (by omega), show (((2 + r1).toNat : Nat) : Int) = 2 + r1 from by omega]

/-- Numbers that are weights. -/
def wtB (l : List Int) : Bool := decide (2 ≤ (l.length : Int) ∧ (l.length : Int) ≤ 24) && l.all fun n => decide (1 ≤ n ∧ n ≤ 100000)
theorem wtB_iff (l : List Int) : wtB l = true ↔ (2 ≤ (l.length : Int) ∧ (l.length : Int) ≤ 24) ∧ ∀ n ∈ l, 1 ≤ n ∧ n ≤ 100000 := by
  simp [wtB, List.all_eq_true]
theorem areWeights_eq (l : List Int) : impl_areWeights.f l = some (wtB l) := by
  unfold impl_areWeights.f impl_areAll_int__91.f
  rw [within_eq, allO_all (q := fun n => decide (1 ≤ n ∧ n ≤ 100000)) (fun x => by unfold impl_areWeights_1.f; rw [within_eq]; rfl)]
  simp only [Option.bind_some, wtB]
  by_cases h : 2 ≤ (l.length : Int) ∧ (l.length : Int) ≤ 24 <;> simp [h]
theorem l15Weights_l (l : List Int) (hn : l.length ≤ 1048576) (d : Nat) : ∀ (j : Nat), j + d = l.length → (∀ n ∈ l.take j, 1 ≤ n ∧ n ≤ 100000) → Ev (fun k => spec_l15Weights.l0 k l l (l.length : Int) (j : Int)) (wtB l) := by
  induction d with
  | zero =>
    intro j hj ha
    refine Ev.step (f := fun _ => some (wtB l)) (fun k => ?_) (Ev.now _)
    simp only [spec_l15Weights.l0]
    rw [if_neg (by omega), l1In_eq]
    simp only [Option.bind_some, Option.some.injEq, wtB]
    rw [List.take_of_length_le (by omega)] at ha
    rw [show (l.all fun n => decide (1 ≤ n ∧ n ≤ 100000)) = true from by simpa [List.all_eq_true] using ha, Bool.and_true]
  | succ d ih =>
    intro j hj ha
    have hlt : j < l.length := by omega
    by_cases hx : 1 ≤ l[j] ∧ l[j] ≤ 100000
    · refine Ev.step (fun k => ?_) (ih (j + 1) (by omega) (fun n hm => ?_))
      · simp only [spec_l15Weights.l0]
        rw [if_pos (by omega), if_pos (by omega), if_pos (by omega), l1In_eq, rdj, getD_at hlt]
        simp only [Option.bind_some, decide_eq_true_eq]
        rw [if_pos hx, wj (n := l.length) hlt (by omega)]
      · rw [List.take_succ_eq_append_getElem hlt, List.mem_append] at hm
        rcases hm with hm | hm
        · exact ha n hm
        · rw [List.mem_singleton.1 hm]; exact hx
    · refine Ev.step (f := fun _ => some (wtB l)) (fun k => ?_) (Ev.now _)
      simp only [spec_l15Weights.l0]
      rw [if_pos (by omega), if_pos (by omega), if_pos (by omega), l1In_eq, rdj, getD_at hlt]
      simp only [Option.bind_some, decide_eq_true_eq]
      rw [if_neg hx]
      refine congrArg some ?_
      symm
      rw [Bool.eq_false_iff]
      intro h
      exact hx ((wtB_iff l).1 h |>.2 _ (List.getElem_mem hlt))
theorem l15Weights_ev (l : List Int) (hn : l.length ≤ 1048576) : Ev (fun k => spec_l15Weights.f k l) (wtB l) :=
  l15Weights_l l hn l.length 0 (by omega) (by simp)

/-- Numbers that are lengths. -/
def lenB (l : List Int) : Bool := decide (1 ≤ (l.length : Int) ∧ (l.length : Int) ≤ 24) && l.all fun n => decide (0 ≤ n ∧ n ≤ 23)
theorem lenB_iff (l : List Int) : lenB l = true ↔ (1 ≤ (l.length : Int) ∧ (l.length : Int) ≤ 24) ∧ ∀ n ∈ l, 0 ≤ n ∧ n ≤ 23 := by
  simp [lenB, List.all_eq_true]
theorem areLengths_eq (l : List Int) : impl_areLengths.f l = some (lenB l) := by
  unfold impl_areLengths.f impl_areAll_int__90.f
  rw [within_eq, allO_all (q := fun n => decide (0 ≤ n ∧ n ≤ 23)) (fun x => by unfold impl_areLengths_1.f; rw [within_eq]; rfl)]
  simp only [Option.bind_some, lenB]
  by_cases h : 1 ≤ (l.length : Int) ∧ (l.length : Int) ≤ 24 <;> simp [h]
theorem l15Lengths_l (l : List Int) (hn : l.length ≤ 1048576) (d : Nat) : ∀ (j : Nat), j + d = l.length → (∀ n ∈ l.take j, 0 ≤ n ∧ n ≤ 23) → Ev (fun k => spec_l15Lengths.l0 k l l (l.length : Int) (j : Int)) (lenB l) := by
  induction d with
  | zero =>
    intro j hj ha
    refine Ev.step (f := fun _ => some (lenB l)) (fun k => ?_) (Ev.now _)
    simp only [spec_l15Lengths.l0]
    rw [if_neg (by omega), l1In_eq]
    simp only [Option.bind_some, Option.some.injEq, lenB]
    rw [List.take_of_length_le (by omega)] at ha
    rw [show (l.all fun n => decide (0 ≤ n ∧ n ≤ 23)) = true from by simpa [List.all_eq_true] using ha, Bool.and_true]
  | succ d ih =>
    intro j hj ha
    have hlt : j < l.length := by omega
    by_cases hx : 0 ≤ l[j] ∧ l[j] ≤ 23
    · refine Ev.step (fun k => ?_) (ih (j + 1) (by omega) (fun n hm => ?_))
      · simp only [spec_l15Lengths.l0]
        rw [if_pos (by omega), if_pos (by omega), if_pos (by omega), l1In_eq, rdj, getD_at hlt]
        simp only [Option.bind_some, decide_eq_true_eq]
        rw [if_pos hx, wj (n := l.length) hlt (by omega)]
      · rw [List.take_succ_eq_append_getElem hlt, List.mem_append] at hm
        rcases hm with hm | hm
        · exact ha n hm
        · rw [List.mem_singleton.1 hm]; exact hx
    · refine Ev.step (f := fun _ => some (lenB l)) (fun k => ?_) (Ev.now _)
      simp only [spec_l15Lengths.l0]
      rw [if_pos (by omega), if_pos (by omega), if_pos (by omega), l1In_eq, rdj, getD_at hlt]
      simp only [Option.bind_some, decide_eq_true_eq]
      rw [if_neg hx]
      refine congrArg some ?_
      symm
      rw [Bool.eq_false_iff]
      intro h
      exact hx ((lenB_iff l).1 h |>.2 _ (List.getElem_mem hlt))
theorem l15Lengths_ev (l : List Int) (hn : l.length ≤ 1048576) : Ev (fun k => spec_l15Lengths.f k l) (lenB l) :=
  l15Lengths_l l hn l.length 0 (by omega) (by simp)

theorem drop_cons {α : Type} {l : List α} {j : Nat} (h : j < l.length) : l.drop j = l[j] :: l.drop (j + 1) := List.drop_eq_getElem_cons h
theorem shl_at (n q s : Nat) (hq : q ≤ s) (hs : s ≤ 60) (hn : n * 2 ^ (s - q) < 9223372036854775808) : shl .i64 (n : Int) (wrap64 ((s : Int) - (q : Int))) = ((n * 2 ^ (s - q) : Nat) : Int) := by
  rw [w64 (by omega) (by omega)]
  unfold shl
  rw [show min ((s : Int) - (q : Int)).toNat IntKind.i64.bits = s - q from by simp only [IntKind.bits]; omega]
  rw [show (n : Int) * 2 ^ (s - q) = ((n * 2 ^ (s - q) : Nat) : Int) from by rw [Int.natCast_mul, Int.natCast_pow]; rfl]
  generalize n * 2 ^ (s - q) = z at hn
  simp only [IntKind.wrap, IntKind.bits, IntKind.signed]; simp; omega
def roomTo (s : Nat) : List Int → Nat
  | [] => 0
  | x :: xs => (if 1 ≤ x ∧ x ≤ (s : Int) then 2 ^ (23 - x.toNat) else 0) + roomTo s xs
theorem kraft_run (l : List Int) (hl : ∀ n ∈ l, 0 ≤ n ∧ n ≤ 23) (hn : l.length ≤ 24) (d : Nat) : ∀ (j R : Nat), j + d = l.length → R ≤ j * 2 ^ 23 →
    Ev (fun k => impl_kraft.l0 k (R : Int) l (l.length : Int) (j : Int)) ((R + roomTo 23 (l.drop j) : Nat) : Int) := by
  induction d with
  | zero =>
    intro j R hj _
    rw [List.drop_eq_nil_of_le (by omega)]
    refine Ev.step (f := fun _ => some (R : Int)) (fun k => ?_) (Ev.now _)
    simp only [impl_kraft.l0]
    rw [if_neg (by omega)]
  | succ d ih =>
    intro j R hj hR
    have hlt : j < l.length := by omega
    have hm := hl _ (List.getElem_mem hlt)
    rw [drop_cons hlt]
    by_cases h4 : l[j] > 0
    · have hp : 2 ^ (23 - l[j].toNat) ≤ 2 ^ 23 := Nat.pow_le_pow_right (by decide) (by omega)
      have hs := shl_at 1 l[j].toNat 23 (by omega) (by omega) (by omega)
      rw [show ((23 : Nat) : Int) - ((l[j].toNat : Nat) : Int) = 23 - l[j] from by omega] at hs
      have e := ih (j + 1) (R + 2 ^ (23 - l[j].toNat)) (by omega) (by omega)
      simp only [roomTo]
      rw [if_pos (by omega), ← Nat.add_assoc]
      refine Ev.step (fun k => ?_) e
      simp only [impl_kraft.l0]
      rw [if_pos (by omega), if_pos (by omega), if_pos (by omega), rdj, getD_at hlt, if_pos h4, if_pos (by rw [w64 (by omega) (by omega)]; omega), wj (n := l.length) hlt (by omega)]
      rw [show shl .i64 1 (wrap64 (23 - l[j])) = ((2 ^ (23 - l[j].toNat) : Nat) : Int) from by rw [← Nat.one_mul (2 ^ (23 - l[j].toNat)), ← hs]; rfl, w64 (by omega) (by omega)]
      rw [show (R : Int) + ((2 ^ (23 - l[j].toNat) : Nat) : Int) = ((R + 2 ^ (23 - l[j].toNat) : Nat) : Int) from by omega]
    · have e := ih (j + 1) R (by omega) (Nat.le_trans hR (Nat.mul_le_mul_right _ (Nat.le_succ j)))
      simp only [roomTo]
      rw [if_neg (by omega), Nat.zero_add]
      refine Ev.step (fun k => ?_) e
      simp only [impl_kraft.l0]
      rw [if_pos (by omega), if_pos (by omega), if_pos (by omega), rdj, getD_at hlt, if_neg h4, wj (n := l.length) hlt (by omega)]

theorem Index_l (l : List Int) (a : Int) (hn : l.length ≤ 1048576) (d : Nat) : ∀ (j : Nat), j + d = l.length → (∀ n ∈ l.take j, n ≠ a) →
    ∃ r, Ev (fun k => slices_Index_int_int.l0 k l a (l.length : Int) (j : Int)) r ∧ (r ≥ 0 ↔ a ∈ l) := by
  induction d with
  | zero =>
    intro j hj ha
    refine ⟨-1, Ev.step (f := fun _ => some (-1)) (fun k => ?_) (Ev.now _), ?_⟩
    · simp only [slices_Index_int_int.l0]
      rw [if_neg (by omega)]
    · rw [List.take_of_length_le (by omega)] at ha
      exact ⟨fun h => by omega, fun h => absurd rfl (ha a h)⟩
  | succ d ih =>
    intro j hj ha
    have hlt : j < l.length := by omega
    by_cases hx : a = l[j]
    · refine ⟨j, Ev.step (f := fun _ => some (j : Int)) (fun k => ?_) (Ev.now _), ?_⟩
      · simp only [slices_Index_int_int.l0]
        rw [if_pos (by omega), if_pos (by omega), if_pos (by omega), rdj, getD_at hlt, if_pos hx]
      · exact ⟨fun _ => hx ▸ List.getElem_mem hlt, fun _ => by omega⟩
    · obtain ⟨r, h1, h2⟩ := ih (j + 1) (by omega) (fun n hm => by
        rw [List.take_succ_eq_append_getElem hlt, List.mem_append] at hm
        rcases hm with hm | hm
        · exact ha n hm
        · rw [List.mem_singleton.1 hm]; exact fun e => hx e.symm)
      refine ⟨r, Ev.step (fun k => ?_) h1, h2⟩
      simp only [slices_Index_int_int.l0]
      rw [if_pos (by omega), if_pos (by omega), if_pos (by omega), rdj, getD_at hlt, if_neg hx, wj (n := l.length) hlt (by omega)]
theorem Contains_ev (l : List Int) (a : Int) (hn : l.length ≤ 1048576) : Ev (fun k => slices_Contains_int_int.f k l a) (decide (a ∈ l)) := by
  obtain ⟨r, h1, h2⟩ := Index_l l a hn l.length 0 (by omega) (by simp)
  unfold slices_Contains_int_int.f
  refine Ev.bind (a := r) h1 (Ev.congr (f := fun _ => some (decide (a ∈ l))) (fun k => ?_) (Ev.now _))
  rw [decide_eq_decide.2 h2]

theorem cost_l (w l : List Int) (hn : w.length ≤ 1048576) (he : l.length = w.length) (h0 : ¬ (0 : Int) ∈ l) (d : Nat) : ∀ (j : Nat) (x : Int), j + d = w.length →
    ∃ r, Ev (fun k => impl_CostOf.l0 k l x w (w.length : Int) (j : Int)) (r, true) ∧ Ev (fun k => spec_CostOf.l0 k l x w (w.length : Int) (j : Int)) (r, true) := by
  induction d with
  | zero =>
    intro j x hj
    refine ⟨x, Ev.step (f := fun _ => some (x, true)) (fun k => ?_) (Ev.now _), Ev.step (f := fun _ => some (x, true)) (fun k => ?_) (Ev.now _)⟩
    · simp only [impl_CostOf.l0]; rw [if_neg (by omega)]
    · simp only [spec_CostOf.l0]; rw [if_neg (by omega)]
  | succ d ih =>
    intro j x hj
    have hlt : j < l.length := by omega
    obtain ⟨r, h1, h2⟩ := ih (j + 1) (wrap64 (x + wrap64 (rd w j * rd l j))) (by omega)
    refine ⟨r, Ev.step (fun k => ?_) h1, Ev.step (fun k => ?_) h2⟩
    · simp only [impl_CostOf.l0]
      rw [if_pos (by omega), if_pos (by omega), if_pos (by omega), if_pos (by omega), wj (n := w.length) (by omega) (by omega)]
    · simp only [spec_CostOf.l0]
      rw [if_pos (by omega), if_pos (by omega), if_pos (by omega), if_pos (by omega), if_neg, wj (n := w.length) (by omega) (by omega)]
      rw [rdj, getD_at hlt]
      exact fun e => h0 (e ▸ List.getElem_mem hlt)
theorem cost_no (w l : List Int) (hn : w.length ≤ 1048576) (he : l.length = w.length) (d : Nat) : ∀ (j : Nat) (x : Int), j + d = w.length → (0 : Int) ∈ l.drop j →
    Ev (fun k => spec_CostOf.l0 k l x w (w.length : Int) (j : Int)) (0, false) := by
  induction d with
  | zero =>
    intro j x hj h0
    rw [List.drop_eq_nil_of_le (by omega)] at h0
    cases h0
  | succ d ih =>
    intro j x hj h0
    have hlt : j < l.length := by omega
    by_cases hz : l[j] = 0
    · refine Ev.step (f := fun _ => some (0, false)) (fun k => ?_) (Ev.now _)
      simp only [spec_CostOf.l0]
      rw [if_pos (by omega), if_pos (by omega), if_pos (by omega), if_pos (by omega), if_pos (by rw [rdj, getD_at hlt]; exact hz)]
    · rw [List.drop_eq_getElem_cons hlt] at h0
      rcases List.mem_cons.1 h0 with h0 | h0
      · exact absurd h0.symm hz
      · refine Ev.step (fun k => ?_) (ih (j + 1) (wrap64 (x + wrap64 (rd w j * rd l j))) (by omega) h0)
        simp only [spec_CostOf.l0]
        rw [if_pos (by omega), if_pos (by omega), if_pos (by omega), if_pos (by omega), if_neg (by rw [rdj, getD_at hlt]; exact hz), wj (n := w.length) (by omega) (by omega)]
theorem CostOf_both (w l : List Int) (hn : w.length ≤ 1048576) (hm : l.length ≤ 1048576) : ∃ r, Ev (fun k => impl_CostOf.f k w l) r ∧ Ev (fun k => spec_CostOf.f k w l) r := by
  have ij : ∀ b : Bool, b = true → Ev (fun k => impl_CostOf.j0 k w l b) (0, false) := fun b hb =>
    Ev.step (f := fun _ => some (0, false)) (fun k => by simp only [impl_CostOf.j0]; rw [if_pos hb]) (Ev.now _)
  have sj : ∀ b : Bool, b = true → Ev (fun k => spec_CostOf.j0 k w l b) (0, false) := fun b hb =>
    Ev.step (f := fun _ => some (0, false)) (fun k => by simp only [spec_CostOf.j0]; rw [if_pos hb]) (Ev.now _)
  unfold impl_CostOf.f spec_CostOf.f
  simp only [areWeights_eq, areLengths_eq, Option.bind_some]
  cases hw : wtB w with
  | false =>
    refine ⟨(0, false), by simpa using ij true rfl, Ev.bind (by have := l15Weights_ev w hn; rwa [hw] at this) ?_⟩
    simpa using sj true rfl
  | true =>
    cases hl : lenB l with
    | false =>
      refine ⟨(0, false), by simpa using ij true rfl, Ev.bind (by have := l15Weights_ev w hn; rwa [hw] at this) ?_⟩
      simp only [if_true]
      refine Ev.bind (by have := l15Lengths_ev l hm; rwa [hl] at this) ?_
      simpa using sj true rfl
    | true =>
      simp only [if_true]
      have hs : ∀ {r}, Ev (fun k => spec_CostOf.j0 k w l ((l.length : Int) != (w.length : Int))) r → Ev (fun k => (spec_l15Weights.f k w).bind fun t114 => if t114 = true then (spec_l15Lengths.f k l).bind fun t115 => if t115 = true then spec_CostOf.j0 k w l ((l.length : Int) != (w.length : Int)) else spec_CostOf.j0 k w l true else spec_CostOf.j0 k w l true) r := by
        intro r hr
        refine Ev.bind (by have := l15Weights_ev w hn; rwa [hw] at this) ?_
        simp only [if_true]
        refine Ev.bind (by have := l15Lengths_ev l hm; rwa [hl] at this) ?_
        simpa using hr
      by_cases he : (l.length : Int) = (w.length : Int)
      · have he' : l.length = w.length := by omega
        simp only [if_pos he]
        by_cases h0 : (0 : Int) ∈ l
        · refine ⟨(0, false), Ev.bind (Contains_ev l 0 hm) (ij _ (by simpa using h0)), hs ?_⟩
          refine Ev.step (f := fun k => spec_CostOf.l0 k l 0 w (w.length : Int) 0) (fun k => ?_) (cost_no w l hn he' w.length 0 0 (by omega) h0)
          simp only [spec_CostOf.j0]
          rw [if_neg (by simp [he])]
        · obtain ⟨r, h1, h2⟩ := cost_l w l hn he' h0 w.length 0 0 (by omega)
          refine ⟨(r, true), Ev.bind (Contains_ev l 0 hm) ?_, hs ?_⟩
          · refine Ev.step (f := fun k => impl_CostOf.l0 k l 0 w (w.length : Int) 0) (fun k => ?_) h1
            simp only [impl_CostOf.j0]
            rw [if_neg (by simpa using h0)]
          · refine Ev.step (f := fun k => spec_CostOf.l0 k l 0 w (w.length : Int) 0) (fun k => ?_) h2
            simp only [spec_CostOf.j0]
            rw [if_neg (by simp [he])]
      · simp only [if_neg he]
        refine ⟨(0, false), ij true rfl, hs (sj _ (by simpa using he))⟩

theorem sameInts_l (l : List Int) (hn : l.length ≤ 1048576) (d : Nat) : ∀ (j : Nat), j + d = l.length → Ev (fun k => laws_sameInts.l0 k l l (l.length : Int) (j : Int)) true := by
  induction d with
  | zero =>
    intro j hj
    refine Ev.step (f := fun _ => some true) (fun k => ?_) (Ev.now _)
    simp only [laws_sameInts.l0]; rw [if_neg (by omega)]
  | succ d ih =>
    intro j hj
    refine Ev.step (fun k => ?_) (ih (j + 1) (by omega))
    simp only [laws_sameInts.l0]
    rw [if_pos (by omega), if_pos (by omega), if_pos (by omega), if_pos (by omega), if_pos trivial, wj (n := l.length) (by omega) (by omega)]
theorem sameInts_ev (l : List Int) (hn : l.length ≤ 1048576) : Ev (fun k => laws_sameInts.f k l l) true := by
  unfold laws_sameInts.f
  simp only [if_true]
  exact sameInts_l l hn l.length 0 (by omega)

theorem fm_perm {α β : Type} (f : α → List β) {l l' : List α} (h : l.Perm l') : (l.flatMap f).Perm (l'.flatMap f) := by
  induction h with
  | nil => exact List.Perm.refl _
  | cons x _ ih => simp only [List.flatMap_cons]; exact ih.append_left _
  | swap x y l =>
    simp only [List.flatMap_cons]
    rw [← List.append_assoc, ← List.append_assoc]
    exact List.perm_append_comm.append_right _
  | trans _ _ h1 h2 => exact h1.trans h2
theorem sum_perm {l l' : List Nat} (h : l.Perm l') : l.sum = l'.sum := by
  induction h with
  | nil => rfl
  | cons x _ ih => simp [ih]
  | swap x y l => simp; omega
  | trans _ _ h1 h2 => exact h1.trans h2
theorem sum_half {α : Type} (f g : α → Nat) : ∀ (l : List α), (∀ i ∈ l, f i * 2 = g i) → (l.map f).sum * 2 = (l.map g).sum
  | [], _ => rfl
  | x :: xs, h => by
    have h1 := h x List.mem_cons_self
    have h2 := sum_half f g xs (fun i hi => h i (List.mem_cons_of_mem _ hi))
    simp only [List.map_cons, List.sum_cons]; omega
theorem sum_plus {α : Type} (f g h : α → Nat) : ∀ (l : List α), (∀ i ∈ l, f i = g i + h i) → (l.map f).sum = (l.map g).sum + (l.map h).sum
  | [], _ => rfl
  | x :: xs, hh => by
    have h1 := hh x List.mem_cons_self
    have h2 := sum_plus f g h xs (fun i hi => hh i (List.mem_cons_of_mem _ hi))
    simp only [List.map_cons, List.sum_cons]; omega
theorem sum_bound {α : Type} (f : α → Nat) (B : Nat) : ∀ (l : List α), (∀ i ∈ l, f i ≤ B) → (l.map f).sum ≤ l.length * B
  | [], _ => by simp
  | x :: xs, hh => by
    have h1 := hh x List.mem_cons_self
    have h2 := sum_bound f B xs (fun i hi => hh i (List.mem_cons_of_mem _ hi))
    simp only [List.map_cons, List.sum_cons, List.length_cons, Nat.add_mul]; omega
theorem sum_same {α : Type} (f g : α → Nat) (l : List α) (h : ∀ i ∈ l, f i = g i) : (l.map f).sum = (l.map g).sum := by
  rw [List.map_congr_left h]
theorem rdT91_at (xs : List S91) {j : Nat} (h : j < xs.length) : rd_T91 xs (j : Int) = xs[j] := by
  show xs.getD j _ = _
  exact getD_at h _
theorem erase_perm {α : Type} (l : List α) (i : Nat) (h : i < l.length) : l.Perm (l[i] :: l.eraseIdx i) := by
  induction l generalizing i with
  | nil => simp at h
  | cons x xs ih =>
    cases i with
    | zero => simp
    | succ i =>
      simp only [List.getElem_cons_succ, List.eraseIdx_cons_succ]
      exact ((ih i (by simpa using h)).cons x).trans (List.Perm.swap _ _ _)
theorem bstT_min (full : List Int) : ∀ (ys : List Int) (i b : Nat) (wb : Int), full.drop i = ys → full[b]? = some wb → (∀ j : Nat, j < i → ∀ v : Int, full[j]? = some v → wb ≤ v) → ∃ v : Int, full[bstT ys i b wb]? = some v ∧ ∀ (j : Nat) (u : Int), full[j]? = some u → v ≤ u
  | [], i, b, wb, hd, hb, hm => ⟨wb, hb, fun j u hu => by
      have hl : full.length ≤ i := by
        have := congrArg List.length hd
        simp at this; omega
      exact hm j (by have := (List.getElem?_eq_some_iff.1 hu).1; omega) u hu⟩
  | y :: ys, i, b, wb, hd, hb, hm => by
    have hi : i < full.length := by
      rcases Nat.lt_or_ge i full.length with h | h
      · exact h
      · rw [List.drop_eq_nil_of_le h] at hd; cases hd
    have hd2 := hd
    rw [List.drop_eq_getElem_cons hi] at hd2
    injection hd2 with e1 e2
    have hy : full[i]? = some y := by rw [List.getElem?_eq_getElem hi, e1]
    simp only [bstT]
    split
    · rename_i c
      refine bstT_min full ys (i + 1) i y e2 hy (fun j hj v hv => ?_)
      rcases Nat.lt_or_ge j i with h | h
      · have := hm j h v hv; omega
      · obtain rfl : j = i := by omega
        rw [hy] at hv; injection hv with hv; omega
    · rename_i c
      refine bstT_min full ys (i + 1) b wb e2 hb (fun j hj v hv => ?_)
      rcases Nat.lt_or_ge j i with h | h
      · exact hm j h v hv
      · obtain rfl : j = i := by omega
        rw [hy] at hv; injection hv with hv; omega
theorem lgT_min {xs : List S91} (h : 0 < xs.length) : ∀ x ∈ xs, (rd_T91 xs (lgT xs : Nat)).f0 ≤ x.f0 := by
  intro x hx
  have e0 : (rd_T91 xs 0) = xs[0] := rdT91_at xs h
  obtain ⟨v, hv, hm⟩ := bstT_min (xs.map (·.f0)) (xs.map (·.f0)) 0 0 (rd_T91 xs 0).f0 (by simp) (by rw [e0]; simp [h]) (fun j hj => by omega)
  have hl := lgT_lt h
  rw [rdT91_at xs hl]
  have e1 : (xs.map (·.f0))[lgT xs]? = some v := hv
  simp only [List.getElem?_map, List.getElem?_eq_getElem hl, Option.map_some, Option.some.injEq] at e1
  obtain ⟨j, hj, rfl⟩ := List.getElem_of_mem hx
  have := hm j (xs[j]).f0 (by simp [hj])
  omega
theorem rd_set {out : List Int} {i j v : Int} (h0 : 0 ≤ i) (h1 : i < (out.length : Int)) (hj : 0 ≤ j) : rd (out.set i.toNat v) j = if j = i then v else rd out j := by
  show (out.set i.toNat v).getD j.toNat 0 = if j = i then v else out.getD j.toNat 0
  rw [List.getD_eq_getElem?_getD, List.getD_eq_getElem?_getD, List.getElem?_set]
  by_cases c : j = i
  · subst c; rw [if_pos rfl, if_pos rfl, if_pos (by omega)]; rfl
  · rw [if_neg c, if_neg (by omega)]
theorem bumpO_is (n : Nat) : ∀ (l out : List Int), l.Nodup → (∀ i ∈ l, 0 ≤ i ∧ i < (n : Int)) → out.length = n → (∀ i ∈ l, 0 ≤ rd out i ∧ rd out i ≤ 100) →
    ∃ o2, bumpO l out = some o2 ∧ o2.length = n ∧ (∀ i, i ∈ l → rd o2 i = rd out i + 1) ∧ ∀ i, 0 ≤ i → i ∉ l → rd o2 i = rd out i
  | [], out, _, _, hl, _ => ⟨out, rfl, hl, fun i hi => by simp at hi, fun _ _ _ => rfl⟩
  | i :: is, out, hd, hr, hl, hb => by
    have hi := hr i List.mem_cons_self
    have hbi := hb i List.mem_cons_self
    have hd2 := List.nodup_cons.1 hd
    have ew : wrap64 (rd out i + 1) = rd out i + 1 := w64 (by omega) (by omega)
    obtain ⟨o2, e, e1, e2, e3⟩ := bumpO_is n is (out.set i.toNat (wrap64 (rd out i + 1))) hd2.2 (fun j hj => hr j (List.mem_cons_of_mem _ hj)) (by simpa using hl) (fun j hj => by
      have hj2 := hr j (List.mem_cons_of_mem _ hj)
      rw [rd_set hi.1 (by omega) hj2.1]
      split
      · rename_i c; subst c; exact absurd hj hd2.1
      · exact hb j (List.mem_cons_of_mem _ hj))
    refine ⟨o2, ?_, e1, fun j hj => ?_, fun j hj hn => ?_⟩
    · simp only [bumpO]; rw [if_pos hi.1, if_pos (by omega)]; exact e
    · rcases List.mem_cons.1 hj with rfl | hj
      · rw [e3 j hi.1 hd2.1, rd_set hi.1 (by omega) hi.1, if_pos rfl, ew]
      · have hj2 := hr j (List.mem_cons_of_mem _ hj)
        rw [e2 j hj, rd_set hi.1 (by omega) hj2.1, if_neg (fun c : j = i => hd2.1 (c ▸ hj))]
    · rw [e3 j hj (fun h => hn (List.mem_cons_of_mem _ h)), rd_set hi.1 (by omega) hj, if_neg (fun c : j = i => hn (c ▸ List.mem_cons_self))]
def Wt (w : List Int) (i : Int) : Nat := (rd w i).toNat
structure HInv (n : Nat) (w : List Int) (xs : List S91) (out : List Int) : Prop where
  len : out.length = n
  pm : (xs.flatMap (·.f1)).Perm ((List.range n).map (fun i : Nat => (i : Int)))
  ne : ∀ x ∈ xs, x.f1 ≠ []
  lo : ∀ x ∈ xs, ∀ i ∈ x.f1, 0 ≤ rd out i ∧ rd out i + 1 ≤ x.f1.length
  kr : ∀ x ∈ xs, (x.f1.map fun i => 2 ^ (23 - (rd out i).toNat)).sum = 2 ^ 23
  wt : ∀ x ∈ xs, x.f0 = (((x.f1.map (Wt w)).sum : Nat) : Int)
def costN (n : Nat) (w out : List Int) : Nat := (((List.range n).map (fun i : Nat => (i : Int))).map fun i => Wt w i * (rd out i).toNat).sum
theorem mem_rng {n : Nat} {i : Int} : i ∈ (List.range n).map (fun i : Nat => (i : Int)) ↔ 0 ≤ i ∧ i < (n : Int) := by
  simp only [List.mem_map, List.mem_range]
  constructor
  · rintro ⟨a, h, rfl⟩; omega
  · rintro ⟨h0, h1⟩; exact ⟨i.toNat, by omega, by omega⟩
theorem nodup_rng (n : Nat) : ((List.range n).map (fun i : Nat => (i : Int))).Nodup := by
  rw [List.nodup_iff_pairwise_ne, List.pairwise_map]
  exact (List.nodup_range (n := n)).imp (fun h e => h (by omega))
theorem HInv.step {n : Nat} {w : List Int} {xs : List S91} {out : List Int} (h : HInv n w xs out) (hn : n ≤ 24) (hw : ∀ i, 0 ≤ i → i < (n : Int) → Wt w i ≤ 100000) (h2 : 1 < xs.length) :
    (bothT xs).length ≤ 24 ∧ ∃ o2, bumpO (bothT xs) out = some o2 ∧ HInv n w (restT xs ++ [⟨sumT xs, bothT xs⟩]) o2 ∧
    ∃ a b : S91, xs.Perm (a :: b :: restT xs) ∧ a.f0 ≤ b.f0 ∧ (∀ x ∈ restT xs, b.f0 ≤ x.f0) ∧ 0 ≤ a.f0 ∧ 0 ≤ b.f0 ∧ sumT xs = a.f0 + b.f0 ∧ costN n w o2 = costN n w out + (sumT xs).toNat := by
  have hl1 := lgT_lt (xs := xs) (by omega)
  have hel : (xs.eraseIdx (lgT xs)).length = xs.length - 1 := by rw [List.length_eraseIdx, if_pos hl1]
  have hl2 := lgT_lt (xs := xs.eraseIdx (lgT xs)) (by omega)
  have m1 := lgT_min (xs := xs) (by omega)
  have m2 := lgT_min (xs := xs.eraseIdx (lgT xs)) (by omega)
  have p1 := erase_perm xs (lgT xs) hl1
  have p2 := erase_perm (xs.eraseIdx (lgT xs)) (lgT (xs.eraseIdx (lgT xs))) hl2
  have eb : bothT xs = (rd_T91 xs (lgT xs)).f1 ++ (rd_T91 (xs.eraseIdx (lgT xs)) (lgT (xs.eraseIdx (lgT xs)))).f1 := rfl
  have es : sumT xs = wrap64 ((rd_T91 xs (lgT xs)).f0 + (rd_T91 (xs.eraseIdx (lgT xs)) (lgT (xs.eraseIdx (lgT xs)))).f0) := rfl
  have er : restT xs = (xs.eraseIdx (lgT xs)).eraseIdx (lgT (xs.eraseIdx (lgT xs))) := rfl
  rw [← rdT91_at xs hl1] at p1
  rw [← rdT91_at _ hl2, ← er] at p2
  generalize rd_T91 xs (lgT xs) = a at *
  generalize rd_T91 (xs.eraseIdx (lgT xs)) (lgT (xs.eraseIdx (lgT xs))) = b at *
  have pp : xs.Perm (a :: b :: restT xs) := p1.trans (p2.cons a)
  have hma : a ∈ xs := pp.mem_iff.2 List.mem_cons_self
  have hmb : b ∈ xs := pp.mem_iff.2 (List.mem_cons_of_mem _ List.mem_cons_self)
  have hmr : ∀ x ∈ restT xs, x ∈ xs := fun x hx => pp.mem_iff.2 (List.mem_cons_of_mem _ (List.mem_cons_of_mem _ hx))
  have hab : a.f0 ≤ b.f0 := m1 b hmb
  have hbr : ∀ x ∈ restT xs, b.f0 ≤ x.f0 := fun x hx => m2 x (p2.mem_iff.2 (List.mem_cons_of_mem _ hx))
  have pf := (fm_perm (fun x : S91 => x.f1) pp).symm.trans h.pm
  simp only [List.flatMap_cons] at pf
  rw [← List.append_assoc, ← eb] at pf
  have hnd : (bothT xs ++ (restT xs).flatMap (fun x => x.f1)).Nodup := pf.symm.nodup (nodup_rng n)
  have hlen : (bothT xs ++ (restT xs).flatMap (fun x => x.f1)).length = n := by rw [pf.length_eq]; simp
  have hmem : ∀ i ∈ bothT xs, 0 ≤ i ∧ i < (n : Int) := fun i hi => mem_rng.1 (pf.mem_iff.1 (List.mem_append_left _ hi))
  have hla : 1 ≤ a.f1.length := List.length_pos_iff.2 (h.ne a hma)
  have hlb : 1 ≤ b.f1.length := List.length_pos_iff.2 (h.ne b hmb)
  have hbl : (bothT xs).length = a.f1.length + b.f1.length := by rw [eb, List.length_append]
  have hbn : (bothT xs).length ≤ n := by rw [← hlen, List.length_append]; omega
  have hlo : ∀ i ∈ bothT xs, 0 ≤ rd out i ∧ rd out i + 2 ≤ (bothT xs).length := by
    intro i hi
    rw [eb] at hi
    rcases List.mem_append.1 hi with hi | hi
    · have := h.lo a hma i hi; omega
    · have := h.lo b hmb i hi; omega
  obtain ⟨hn1, hn2, hn3⟩ := List.nodup_append.1 hnd
  obtain ⟨o2, e, e1, e2, e3⟩ := bumpO_is n (bothT xs) out hn1 hmem h.len (fun i hi => by have := hlo i hi; omega)
  have hrest : ∀ x ∈ restT xs, ∀ i ∈ x.f1, rd o2 i = rd out i := by
    intro x hx i hi
    have hf : i ∈ (restT xs).flatMap (fun x => x.f1) := List.mem_flatMap.2 ⟨x, hx, hi⟩
    exact e3 i (mem_rng.1 (pf.mem_iff.1 (List.mem_append_right _ hf))).1 (fun hb => hn3 i hb i hf rfl)
  have hsum : (((bothT xs).map (Wt w)).sum : Nat) = (a.f1.map (Wt w)).sum + (b.f1.map (Wt w)).sum := by rw [eb, List.map_append, List.sum_append]
  have hsb : ((bothT xs).map (Wt w)).sum ≤ (bothT xs).length * 100000 := sum_bound _ _ _ (fun i hi => hw i (hmem i hi).1 (hmem i hi).2)
  have hsb2 : (bothT xs).length * 100000 ≤ 24 * 100000 := Nat.mul_le_mul_right _ (by omega)
  have ha0 := h.wt a hma
  have hb0 := h.wt b hmb
  have hs : sumT xs = a.f0 + b.f0 := by rw [es]; exact w64 (by omega) (by omega)
  have hst : sumT xs = ((((bothT xs).map (Wt w)).sum : Nat) : Int) := by rw [hs, hsum]; omega
  refine ⟨by omega, o2, e, ⟨e1, ?_, ?_, ?_, ?_, ?_⟩, a, b, pp, hab, hbr, by omega, by omega, hs, ?_⟩
  · rw [List.flatMap_append]
    simp only [List.flatMap_cons, List.flatMap_nil, List.append_nil]
    exact List.perm_append_comm.trans pf
  · intro x hx
    rcases List.mem_append.1 hx with hx | hx
    · exact h.ne x (hmr x hx)
    · rw [List.mem_singleton.1 hx]
      exact fun c => by rw [show (bothT xs) = [] from c] at hbl; simp at hbl; omega
  · intro x hx i hi
    rcases List.mem_append.1 hx with hx | hx
    · rw [hrest x hx i hi]; exact h.lo x (hmr x hx) i hi
    · rw [List.mem_singleton.1 hx] at hi ⊢
      have hi' : i ∈ bothT xs := hi
      have := hlo i hi'
      rw [e2 i hi']
      show _ ∧ _ ≤ (((bothT xs).length : Nat) : Int)
      omega
  · intro x hx
    rcases List.mem_append.1 hx with hx | hx
    · rw [← h.kr x (hmr x hx)]
      exact sum_same _ _ _ (fun i hi => by rw [hrest x hx i hi])
    · rw [List.mem_singleton.1 hx]
      show ((bothT xs).map fun i => 2 ^ (23 - (rd o2 i).toNat)).sum = 2 ^ 23
      have hh : ∀ i ∈ bothT xs, 2 ^ (23 - (rd o2 i).toNat) * 2 = 2 ^ (23 - (rd out i).toNat) := by
        intro i hi
        have := hlo i hi
        rw [e2 i hi, ← Nat.pow_succ]
        congr 1
        omega
      have h3 := sum_half _ _ _ hh
      have h4 : ((bothT xs).map fun i => 2 ^ (23 - (rd out i).toNat)).sum = 2 ^ 23 + 2 ^ 23 := by
        rw [eb, List.map_append, List.sum_append, h.kr a hma, h.kr b hmb]
      omega
  · intro x hx
    rcases List.mem_append.1 hx with hx | hx
    · exact h.wt x (hmr x hx)
    · rw [List.mem_singleton.1 hx]; exact hst
  · rw [hst, Int.toNat_natCast]
    have c1 : ∀ o : List Int, costN n w o = ((bothT xs).map fun i => Wt w i * (rd o i).toNat).sum + (((restT xs).flatMap (fun x => x.f1)).map fun i => Wt w i * (rd o i).toNat).sum := by
      intro o
      unfold costN
      rw [← sum_perm (pf.map _), List.map_append, List.sum_append]
    rw [c1 o2, c1 out]
    have c2 := sum_plus (fun i => Wt w i * (rd o2 i).toNat) (fun i => Wt w i * (rd out i).toNat) (Wt w) (bothT xs) (fun i hi => by
      have := hlo i hi
      rw [e2 i hi, show (rd out i + 1).toNat = (rd out i).toNat + 1 by omega, Nat.mul_add, Nat.mul_one])
    have c3 := sum_same (fun i => Wt w i * (rd o2 i).toNat) (fun i => Wt w i * (rd out i).toNat) ((restT xs).flatMap (fun x => x.f1)) (fun i hi => by
      obtain ⟨x, hx, hi⟩ := List.mem_flatMap.1 hi
      rw [hrest x hx i hi])
    omega
theorem restT_length {xs : List S91} (h2 : 1 < xs.length) : (restT xs).length + 2 = xs.length := by
  have hl1 := lgT_lt (xs := xs) (by omega)
  have hel : (xs.eraseIdx (lgT xs)).length = xs.length - 1 := by rw [List.length_eraseIdx, if_pos hl1]
  have hl2 := lgT_lt (xs := xs.eraseIdx (lgT xs)) (by omega)
  show ((xs.eraseIdx (lgT xs)).eraseIdx (lgT (xs.eraseIdx (lgT xs)))).length + 2 = _
  rw [List.length_eraseIdx, if_pos hl2]; omega

theorem merged_perm {ws : List Nat} {c : Nat} (h : Huff.Merged ws c) : ∀ {ws' : List Nat}, ws.Perm ws' → Huff.Merged ws' c := by
  cases h with
  | one w => intro ws' hp; rw [← List.singleton_perm.1 hp]; exact .one w
  | step h1 h2 h3 h4 => intro ws' hp; exact .step (hp.symm.trans h1) h2 h3 h4
theorem proc_ok {n : Nat} {w : List Int} (hn : n ≤ 24) (hw : ∀ i, 0 ≤ i → i < (n : Int) → Wt w i ≤ 100000) : ∀ (m : Nat) (xs : List S91) (out : List Int), xs.length = m + 1 → HInv n w xs out → ∀ fuel, m < fuel →
    ∃ r x c, procT fuel xs out = some r ∧ HInv n w [x] r ∧ Huff.Merged (xs.map fun x => x.f0.toNat) c ∧ costN n w r = costN n w out + c
  | 0, xs, out, hl, h, fuel, hf => by
    obtain ⟨f, rfl⟩ : ∃ f, fuel = f + 1 := ⟨fuel - 1, by omega⟩
    match xs, hl with
    | [x], _ => exact ⟨out, x, 0, by simp [procT], h, .one _, rfl⟩
  | m + 1, xs, out, hl, h, fuel, hf => by
    obtain ⟨f, rfl⟩ : ∃ f, fuel = f + 1 := ⟨fuel - 1, by omega⟩
    have h2 : 1 < xs.length := by omega
    obtain ⟨hb, o2, e, hi, a, b, pp, hab, hbr, ha0, hb0, hs, hc⟩ := h.step hn hw h2
    have hrl := restT_length h2
    obtain ⟨r, x, c, e1, e2, e3, e4⟩ := proc_ok hn hw m (restT xs ++ [⟨sumT xs, bothT xs⟩]) o2 (by simp; omega) hi f (by omega)
    refine ⟨r, x, c + (a.f0.toNat + b.f0.toNat), ?_, e2, ?_, ?_⟩
    · simp only [procT]
      rw [if_pos h2, if_pos (by omega), e]
      exact e1
    · refine .step (pp.map _) (by omega) (fun y hy => ?_) (merged_perm e3 ?_)
      · obtain ⟨z, hz, rfl⟩ := List.mem_map.1 hy
        have := hbr z hz
        omega
      · rw [List.map_append]
        refine List.perm_append_comm.trans ?_
        simp only [List.map_cons, List.map_nil, List.singleton_append]
        rw [show (sumT xs).toNat = a.f0.toNat + b.f0.toNat by omega]
    · rw [e4, hc]; omega
theorem mem_mkT {w : List Int} {x : S91} (h : x ∈ mkT w) : ∃ i : Nat, i < w.length ∧ x = ⟨rd w (i : Int), [(i : Int)]⟩ := by
  obtain ⟨p, hp, rfl⟩ := List.mem_map.1 h
  have := List.mem_zipIdx_iff_getElem?.1 hp
  obtain ⟨hl, he⟩ := List.getElem?_eq_some_iff.1 this
  refine ⟨p.2, hl, ?_⟩
  rw [rdj, getD_at hl, he]
theorem mkT_inv (w : List Int) (hn : w.length ≤ 24) (hw : ∀ v ∈ w, 1 ≤ v ∧ v ≤ 100000) : HInv w.length w (mkT w) (List.replicate w.length 0) := by
  have r0 : ∀ i : Nat, rd (List.replicate w.length 0) (i : Int) = 0 := by
    intro i
    show (List.replicate w.length (0 : Int)).getD i 0 = 0
    rw [List.getD_eq_getElem?_getD, List.getElem?_replicate]
    split <;> rfl
  refine ⟨by simp, ?_, ?_, ?_, ?_, ?_⟩
  · have : (mkT w).flatMap (fun x => x.f1) = (List.range w.length).map (fun i : Nat => (i : Int)) := by
      unfold mkT
      rw [List.flatMap_map]
      have e2 : ∀ l : List (Int × Nat), (l.flatMap fun p => [(p.2 : Int)]) = (l.map Prod.snd).map (fun i : Nat => (i : Int)) := by
        intro l
        induction l with
        | nil => rfl
        | cons p l ih => simp only [List.flatMap_cons, List.map_cons, ih]; rfl
      rw [e2, List.zipIdx_map_snd, List.range_eq_range']
    rw [this]
  · intro x hx
    obtain ⟨i, _, rfl⟩ := mem_mkT hx
    simp
  · intro x hx j hj
    obtain ⟨i, _, rfl⟩ := mem_mkT hx
    rw [List.mem_singleton.1 hj, r0]; simp
  · intro x hx
    obtain ⟨i, _, rfl⟩ := mem_mkT hx
    simp only [List.map_cons, List.map_nil, List.sum_cons, List.sum_nil, r0]; rfl
  · intro x hx
    obtain ⟨i, hi, rfl⟩ := mem_mkT hx
    simp only [List.map_cons, List.map_nil, List.sum_cons, List.sum_nil, Wt]
    have := hw _ (List.getElem_mem hi)
    rw [rdj, getD_at hi]; omega
/-- The lengths that the process tells. -/
structure LensOk (w r : List Int) (c : Nat) : Prop where
  len : r.length = w.length
  hi : ∀ v ∈ r, 1 ≤ v ∧ v ≤ 23
  kr : (((List.range w.length).map (fun i : Nat => (i : Int))).map fun i => 2 ^ (23 - (rd r i).toNat)).sum = 2 ^ 23
  cost : costN w.length w r = c
  merged : Huff.Merged (w.map Int.toNat) c
theorem lens_proc (w : List Int) (h2 : 2 ≤ w.length) (hn : w.length ≤ 24) (hw : ∀ v ∈ w, 1 ≤ v ∧ v ≤ 100000) : ∃ r c, procT (w.length + 1) (mkT w) (List.replicate w.length 0) = some r ∧ LensOk w r c := by
  have hW : ∀ i, 0 ≤ i → i < (w.length : Int) → Wt w i ≤ 100000 := by
    intro i h0 h1
    have hl : i.toNat < w.length := by omega
    have := hw _ (List.getElem_mem hl)
    have e : rd w i = w[i.toNat] := getD_at hl 0
    unfold Wt; rw [e]; omega
  obtain ⟨m, hm⟩ : ∃ m, w.length = m + 1 := ⟨w.length - 1, by omega⟩
  obtain ⟨r, x, c, e1, e2, e3, e4⟩ := proc_ok hn hW m (mkT w) _ (by rw [mkT_length]; exact hm) (mkT_inv w hn hw) (w.length + 1) (by omega)
  have pm : x.f1.Perm ((List.range w.length).map (fun i : Nat => (i : Int))) := by have := e2.pm; simpa using this
  have hxl : x.f1.length = w.length := by rw [pm.length_eq]; simp
  have kr : (((List.range w.length).map (fun i : Nat => (i : Int))).map fun i => 2 ^ (23 - (rd r i).toNat)).sum = 2 ^ 23 := by
    rw [← sum_perm (pm.map _)]; exact e2.kr x List.mem_cons_self
  refine ⟨r, c, e1, e2.len, ?_, kr, ?_, ?_⟩
  · intro v hv
    obtain ⟨i, hi, rfl⟩ := List.getElem_of_mem hv
    have hi2 : i < w.length := by rw [← e2.len]; exact hi
    have hm2 : (i : Int) ∈ x.f1 := pm.mem_iff.2 (mem_rng.2 ⟨by omega, by omega⟩)
    have := e2.lo x List.mem_cons_self _ hm2
    rw [rdj, getD_at hi, hxl] at this
    refine ⟨?_, by omega⟩
    rcases Nat.lt_or_ge 0 (r[i]).toNat with h0 | h0
    · omega
    exfalso
    -- a length of 0 alone fills all room; another one stands beside it
    have hq : ∃ j : Nat, j < w.length ∧ j ≠ i := by
      by_cases c0 : i = 0
      · exact ⟨1, by omega, by omega⟩
      · exact ⟨0, by omega, by omega⟩
    obtain ⟨j, hj, hji⟩ := hq
    have hmi : (i : Int) ∈ (List.range w.length).map (fun i : Nat => (i : Int)) := mem_rng.2 ⟨by omega, by omega⟩
    have hmj : (j : Int) ∈ ((List.range w.length).map (fun i : Nat => (i : Int))).erase (i : Int) := (List.mem_erase_of_ne (by omega)).2 (mem_rng.2 ⟨by omega, by omega⟩)
    have p1 := List.perm_cons_erase hmi
    have p2 := p1.trans ((List.perm_cons_erase hmj).cons _)
    rw [sum_perm (p2.map _)] at kr
    simp only [List.map_cons, List.sum_cons] at kr
    have hp := Nat.two_pow_pos (23 - (rd r (j : Int)).toNat)
    rw [rdj r i, getD_at hi, show (r[i]).toNat = 0 by omega] at kr
    omega
  · have c0 : costN w.length w (List.replicate w.length 0) = 0 := by
      unfold costN
      rw [List.map_map]
      have : ∀ l : List Nat, (l.map ((fun i : Int => Wt w i * (rd (List.replicate w.length 0) i).toNat) ∘ fun i : Nat => (i : Int))).sum = 0 := by
        intro l
        induction l with
        | nil => rfl
        | cons a l ih =>
          simp only [List.map_cons, List.sum_cons, ih, Function.comp]
          have : rd (List.replicate w.length 0) (a : Int) = 0 := by
            show (List.replicate w.length (0 : Int)).getD a 0 = 0
            rw [List.getD_eq_getElem?_getD, List.getElem?_replicate]
            split <;> rfl
          rw [this]; simp
      exact this _
    rw [e4, c0]; omega
  · have : (mkT w).map (fun x => x.f0.toNat) = w.map Int.toNat := by
      unfold mkT
      rw [List.map_map]
      have e2 : ∀ l : List (Int × Nat), l.map ((fun x : S91 => x.f0.toNat) ∘ fun p : Int × Nat => (⟨p.1, [(p.2 : Int)]⟩ : S91)) = (l.map Prod.fst).map Int.toNat := by
        intro l
        induction l with
        | nil => rfl
        | cons p l ih => simp only [List.map_cons, ih]; rfl
      rw [e2, List.zipIdx_map_fst]
    rw [← this]; exact e3

theorem Max_l (l : List Int) (hn : l.length ≤ 1048576) (h23 : ∀ v ∈ l, v ≤ 23) (d : Nat) : ∀ (j : Nat) (m : Int), j + d = l.length → m ≤ 23 → ∃ r, Ev (fun k => slices_Max_int_int.l0 k l m (j : Int)) r ∧ r ≤ 23 := by
  induction d with
  | zero =>
    intro j m hj hm
    refine ⟨m, Ev.step (f := fun _ => some m) (fun k => ?_) (Ev.now _), hm⟩
    simp only [slices_Max_int_int.l0]
    rw [if_neg (by omega)]
  | succ d ih =>
    intro j m hj hm
    have hlt : j < l.length := by omega
    have hv := h23 _ (List.getElem_mem hlt)
    obtain ⟨r, h, h2⟩ := ih (j + 1) (mx m (rd l (j : Int))) (by omega) (by rw [rdj, getD_at hlt]; unfold mx; split <;> omega)
    refine ⟨r, Ev.step (fun k => ?_) h, h2⟩
    simp only [slices_Max_int_int.l0]
    rw [if_pos (by omega), if_pos (by omega), wj (n := l.length) hlt (by omega)]
theorem Max_ev (l : List Int) (h1 : 1 ≤ l.length) (hn : l.length ≤ 1048576) (h23 : ∀ v ∈ l, v ≤ 23) : ∃ r, Ev (fun k => slices_Max_int_int.f k l) r ∧ r ≤ 23 := by
  have hv := h23 _ (List.getElem_mem (show 0 < l.length by omega))
  obtain ⟨r, h, h2⟩ := Max_l l hn h23 (l.length - 1) 1 (rd l 0) (by omega) (by rw [show (0 : Int) = ((0 : Nat) : Int) from rfl, rdj, getD_at (by omega)]; exact hv)
  refine ⟨r, Ev.congr (fun k => ?_) h, h2⟩
  simp only [slices_Max_int_int.f]
  rw [if_neg (by omega), if_pos (by omega)]; rfl
def cS (x : S91) : S97 := ⟨x.f0, x.f1⟩
theorem rd97_at (xs : List S91) {j : Nat} (h : j < xs.length) : rd_T97 (xs.map cS) (j : Int) = cS xs[j] := by
  show (xs.map cS).getD j _ = _
  rw [List.getD_eq_getElem?_getD, List.getElem?_map, List.getElem?_eq_getElem h]; rfl
theorem map_cut (xs : List S91) (b : Nat) : (xs.map cS).take b ++ (xs.map cS).drop (b + 1) = (xs.eraseIdx b).map cS := by
  rw [List.eraseIdx_eq_take_drop_succ, List.map_append, List.map_take, List.map_drop]
theorem best_ev (out : List Int) (xs : List S91) (hn : xs.length ≤ 100) (x9 x : Int) (ps : List Int) (r : List Int × Bool) (B : Nat) (hB : B < xs.length) (hp : ps.length + (rd_T91 xs (B : Int)).f1.length < 17592186044416)
    (H : Ev (fun k => spec_LengthsOf.l2 k out ((xs.eraseIdx B).map cS) (wrap64 (x9 + 1)) (wrap64 (x + (rd_T91 xs (B : Int)).f0)) (ps ++ (rd_T91 xs (B : Int)).f1)) r) (d : Nat) :
    ∀ (j b : Nat), j + d = xs.length → b < xs.length → bstT ((xs.map (·.f0)).drop j) j b (rd_T91 xs (b : Int)).f0 = B → Ev (fun k => spec_LengthsOf.l3 k out (xs.map cS) x9 (b : Int) (xs.map cS) (((xs.map cS).length : Nat) : Int) (j : Int) x ps) r := by
  have hml : (xs.map cS).length = xs.length := List.length_map _
  induction d with
  | zero =>
    intro j b hj hb hbb
    rw [List.drop_eq_nil_of_le (by simp; omega)] at hbb
    simp only [bstT] at hbb
    subst hbb
    refine Ev.step (fun k => ?_) H
    simp only [spec_LengthsOf.l3, Option.bind_some, rd97_at xs hb, rdT91_at xs hb, List.nil_append, List.length_nil, List.length_take, List.length_drop, List.length_append, Int.toNat_natCast, wj hb (show xs.length ≤ 4611686018427387904 by omega), hml]
    rw [rdT91_at xs hb] at hp
    have hp2 : ps.length + (cS xs[b]).f1.length < 17592186044416 := hp
    rw [if_neg (by omega), if_pos (by omega), if_pos (by omega), if_pos hp2, if_pos (by omega), if_pos (by omega), if_pos (by omega), if_pos (by omega), if_pos (by omega), map_cut]
    rfl
  | succ d ih =>
    intro j b hj hb hbb
    have hj2 : j < xs.length := by omega
    rw [drop_w xs j hj2] at hbb
    simp only [bstT] at hbb
    have e1 : ∀ {i : Nat} (hi : i < xs.length), (rd_T97 (xs.map cS) (i : Int)).f0 = (rd_T91 xs (i : Int)).f0 := fun hi => by rw [rd97_at xs hi, rdT91_at xs hi]; rfl
    by_cases c : (rd_T91 xs (j : Int)).f0 < (rd_T91 xs (b : Int)).f0
    · rw [if_pos c] at hbb
      refine Ev.step (fun k => ?_) (ih (j + 1) j (by omega) hj2 hbb)
      simp only [spec_LengthsOf.l3]
      rw [if_pos (by omega), if_pos (by omega), if_pos (by omega), if_pos (by omega), if_pos (by omega), e1 hj2, e1 hb, if_pos c, wj hj2 (by omega)]
    · rw [if_neg c] at hbb
      refine Ev.step (fun k => ?_) (ih (j + 1) b (by omega) hb hbb)
      simp only [spec_LengthsOf.l3]
      rw [if_pos (by omega), if_pos (by omega), if_pos (by omega), if_pos (by omega), if_pos (by omega), e1 hj2, e1 hb, if_neg c, wj hj2 (by omega)]
theorem add_ev (xs : List S91) (hn : xs.length ≤ 100) (x : Int) (ps o2 : List Int) (hp : ps.length ≤ 4611686018427387904) (r : List Int × Bool) (H : Ev (fun k => spec_LengthsOf.l1 k o2 ((xs ++ [(⟨x, ps⟩ : S91)]).map cS)) r) (d : Nat) :
    ∀ (j : Nat) (out : List Int), j + d = ps.length → bumpO (ps.drop j) out = some o2 → Ev (fun k => spec_LengthsOf.l4 k out (xs.map cS) ps (ps.length : Int) (j : Int) x ps) r := by
  have hml : (xs.map cS).length = xs.length := List.length_map _
  induction d with
  | zero =>
    intro j out hj ho
    rw [List.drop_eq_nil_of_le (by omega)] at ho
    simp only [bumpO, Option.some.injEq] at ho
    subst ho
    refine Ev.step (fun k => ?_) H
    simp only [spec_LengthsOf.l4]
    rw [if_neg (by omega), if_pos (by omega), List.map_append]; rfl
  | succ d ih =>
    intro j out hj ho
    have hj2 : j < ps.length := by omega
    rw [List.drop_eq_getElem_cons hj2] at ho
    simp only [bumpO] at ho
    by_cases c0 : 0 ≤ ps[j]
    · rw [if_pos c0] at ho
      by_cases c1 : ps[j] < (out.length : Int)
      · rw [if_pos c1] at ho
        refine Ev.step (fun k => ?_) (ih (j + 1) _ (by omega) ho)
        simp only [spec_LengthsOf.l4]
        rw [if_pos (by omega), if_pos (by omega), if_pos (by omega), rdj, getD_at hj2, if_pos c0, if_pos c1, wj hj2 (by omega)]
      · rw [if_neg c1] at ho; cases ho
    · rw [if_neg c0] at ho; cases ho
theorem w64_two (a b : Int) : wrap64 (wrap64 (0 + a) + b) = wrap64 (a + b) := by
  unfold wrap64; omega
theorem spec_proc : ∀ (fuel : Nat) (xs : List S91) (out r : List Int), procT fuel xs out = some r → xs.length ≤ 100 → Ev (fun k => spec_LengthsOf.l1 k out (xs.map cS)) (r, true)
  | 0, xs, out, r, h, _ => by simp [procT] at h
  | fuel + 1, xs, out, r, h, hn => by
    have hml : (xs.map cS).length = xs.length := List.length_map _
    simp only [procT] at h
    by_cases c : 1 < xs.length
    · rw [if_pos c] at h
      by_cases c2 : (bothT xs).length < 1099511627776
      · rw [if_pos c2] at h
        obtain ⟨o2, hb, h⟩ := Option.bind_eq_some_iff.1 h
        have hrl := restT_length c
        have H1 := spec_proc fuel _ _ _ h (by simp; omega)
        have H4 := add_ev (restT xs) (by omega) (sumT xs) (bothT xs) o2 (by omega) _ H1 (bothT xs).length 0 out (by omega) hb
        have hl1 := lgT_lt (xs := xs) (by omega)
        have hel : (xs.eraseIdx (lgT xs)).length = xs.length - 1 := by rw [List.length_eraseIdx, if_pos hl1]
        have hl2 := lgT_lt (xs := xs.eraseIdx (lgT xs)) (by omega)
        have hbl : (bothT xs).length = (rd_T91 xs (lgT xs)).f1.length + (rd_T91 (xs.eraseIdx (lgT xs)) (lgT (xs.eraseIdx (lgT xs)))).f1.length := List.length_append
        have L2 : Ev (fun k => spec_LengthsOf.l2 k out ((restT xs).map cS) 2 (sumT xs) (bothT xs)) (r, true) := by
          refine Ev.step (fun k => ?_) H4
          simp only [spec_LengthsOf.l2]
          rw [if_neg (by omega)]; rfl
        have L1 := best_ev out (xs.eraseIdx (lgT xs)) (by omega) 1 (wrap64 (0 + (rd_T91 xs (lgT xs)).f0)) ([] ++ (rd_T91 xs (lgT xs)).f1) (r, true) (lgT (xs.eraseIdx (lgT xs))) hl2 (by rw [List.nil_append]; omega)
          (by rw [w64_two, List.nil_append, show wrap64 (1 + 1) = 2 from by rw [w64 (by omega) (by omega)]; rfl]; exact L2) (xs.eraseIdx (lgT xs)).length 0 0 (by omega) (by omega) rfl
        have L1' : Ev (fun k => spec_LengthsOf.l2 k out ((xs.eraseIdx (lgT xs)).map cS) 1 (wrap64 (0 + (rd_T91 xs (lgT xs)).f0)) ([] ++ (rd_T91 xs (lgT xs)).f1)) (r, true) := by
          refine Ev.step (fun k => ?_) L1
          simp only [spec_LengthsOf.l2]
          rw [if_pos (by omega)]; rfl
        have L0 := best_ev out xs (by omega) 0 0 [] (r, true) (lgT xs) hl1 (by simp; omega) (by rw [show wrap64 (0 + 1) = 1 from by rw [w64 (by omega) (by omega)]; rfl]; exact L1') xs.length 0 0 (by omega) (by omega) rfl
        refine Ev.step (f := fun k => spec_LengthsOf.l2 k out (xs.map cS) 0 0 []) (fun k => ?_) (Ev.step (fun k => ?_) L0)
        · simp only [spec_LengthsOf.l1]
          rw [if_pos (by omega)]
        · simp only [spec_LengthsOf.l2]
          rw [if_pos (by omega)]; rfl
      · rw [if_neg c2] at h; cases h
    · rw [if_neg c] at h
      simp only [Option.some.injEq] at h
      subst h
      refine Ev.step (f := fun _ => some (out, true)) (fun k => ?_) (Ev.now _)
      simp only [spec_LengthsOf.l1]
      rw [if_neg (by omega)]
theorem heaps_ev (w out : List Int) (hn : w.length ≤ 24) (r : List Int) (H : Ev (fun k => spec_LengthsOf.l1 k out ((mkT w).map cS)) (r, true)) (d : Nat) : ∀ (j : Nat), j + d = w.length →
    Ev (fun k => spec_LengthsOf.l0 k out (((mkT w).take j).map cS) w (w.length : Int) (j : Int)) (r, true) := by
  induction d with
  | zero =>
    intro j hj
    rw [List.take_of_length_le (by rw [mkT_length]; omega)]
    refine Ev.step (fun k => ?_) H
    simp only [spec_LengthsOf.l0]
    rw [if_neg (by omega)]
  | succ d ih =>
    intro j hj
    have hlt : j < w.length := by omega
    have h := ih (j + 1) (by omega)
    rw [mkT_step w j hlt, List.map_append] at h
    have hl : (((mkT w).take j).map cS).length ≤ 24 := by simp; omega
    refine Ev.step (fun k => ?_) h
    simp only [spec_LengthsOf.l0]
    rw [if_pos (by omega), if_pos (by omega), if_pos (by omega), if_pos (by omega), wj hlt (by omega)]
    rfl
theorem LengthsOf_both (w : List Int) (hn : w.length ≤ 1048576) : ∃ r b, Ev (fun k => impl_LengthsOf.f k w) (r, b) ∧ Ev (fun k => spec_LengthsOf.f k w) (r, b) ∧ r.length ≤ w.length ∧ (b = false → r = []) ∧ (b = true → wtB w = true ∧ ∃ c, LensOk w r c) := by
  have hs := l15Weights_ev w hn
  cases hb : wtB w with
  | false =>
    rw [hb] at hs
    refine ⟨[], false, ?_, ?_, by simp, fun _ => rfl, fun h => by cases h⟩
    · refine Ev.congr (f := fun _ => some ([], false)) (fun k => ?_) (Ev.now _)
      simp [impl_LengthsOf.f, areWeights_eq, hb]
    · unfold spec_LengthsOf.f
      refine Ev.bind hs ?_
      exact Ev.congr (f := fun _ => some ([], false)) (fun k => by simp) (Ev.now _)
  | true =>
    rw [hb] at hs
    have hw := (wtB_iff w).1 hb
    obtain ⟨r, c, e, hr⟩ := lens_proc w (by omega) (by omega) hw.2
    obtain ⟨m, hm, hm2⟩ := Max_ev r (by rw [hr.len]; omega) (by rw [hr.len]; omega) (fun v hv => (hr.hi v hv).2)
    refine ⟨r, true, ?_, ?_, (by rw [hr.len]; exact Nat.le_refl _), (fun h => by cases h), fun _ => ⟨rfl, c, hr⟩⟩
    · refine Ev.congr (f := fun k => (slices_Max_int_int.f k r).bind fun m => some (r, decide (m ≤ 23))) (fun k => ?_) (Ev.bind hm (Ev.congr (fun k => by rw [decide_eq_true hm2]) (Ev.now _)))
      simp only [impl_LengthsOf.f, areWeights_eq, hb, Option.bind_some, if_true]
      rw [if_pos ⟨by omega, by omega⟩, e]; rfl
    · unfold spec_LengthsOf.f
      refine Ev.bind hs ?_
      have h0 := heaps_ev w (List.replicate w.length 0) (by omega) r (spec_proc _ _ _ _ e (by rw [mkT_length]; omega)) w.length 0 (by omega)
      refine Ev.congr (fun k => ?_) h0
      rw [if_pos rfl, if_pos (by omega), Int.toNat_natCast, if_pos (by omega)]; rfl

theorem rng_map {β : Type} (l : List Int) (g : Int → β) : ((List.range l.length).map (fun i : Nat => (i : Int))).map (fun i => g (rd l i)) = l.map g := by
  rw [List.map_map]
  refine List.ext_getElem (by simp) (fun i h1 h2 => ?_)
  simp only [List.getElem_map, List.getElem_range, Function.comp]
  rw [rdj, getD_at (by simpa using h2)]
theorem room_sum : ∀ (l : List Int), (∀ v ∈ l, 1 ≤ v ∧ v ≤ 23) → roomTo 23 l = (l.map fun v => 2 ^ (23 - v.toNat)).sum
  | [], _ => rfl
  | x :: xs, h => by
    have hx := h x List.mem_cons_self
    simp only [roomTo, List.map_cons, List.sum_cons]
    rw [if_pos ⟨hx.1, by omega⟩, room_sum xs (fun v hv => h v (List.mem_cons_of_mem _ hv))]
theorem mul_le_23 {a b : Nat} (ha : a ≤ 100000) (hb : b ≤ 23) : a * b ≤ 2300000 := Nat.mul_le_mul ha hb
theorem step_le {S j p : Nat} (hS : S ≤ j * 2300000) (hp : p ≤ 2300000) : S + p ≤ (j + 1) * 2300000 := by omega
theorem cost_run (w l : List Int) (hn : w.length ≤ 24) (he : l.length = w.length) (hw : ∀ v ∈ w, 1 ≤ v ∧ v ≤ 100000) (hl : ∀ v ∈ l, 1 ≤ v ∧ v ≤ 23) (d : Nat) : ∀ (j S : Nat), j + d = w.length → S ≤ j * 2300000 →
    Ev (fun k => impl_CostOf.l0 k l (S : Int) w (w.length : Int) (j : Int)) (((S + (((List.range' j d).map (fun i : Nat => (i : Int))).map fun i => Wt w i * (rd l i).toNat).sum : Nat) : Int), true) := by
  induction d with
  | zero =>
    intro j S hj _
    refine Ev.step (f := fun _ => some ((S : Int), true)) (fun k => ?_) (Ev.now _)
    simp only [impl_CostOf.l0]; rw [if_neg (by omega)]
  | succ d ih =>
    intro j S hj hS
    have hlt : j < w.length := by omega
    have hlt2 : j < l.length := by omega
    have h1 := hw _ (List.getElem_mem hlt)
    have h2 := hl _ (List.getElem_mem hlt2)
    have e1 : rd w (j : Int) = ((Wt w (j : Int) : Nat) : Int) := by unfold Wt; rw [rdj, getD_at hlt]; omega
    have e2 : rd l (j : Int) = (((rd l (j : Int)).toNat : Nat) : Int) := by rw [rdj, getD_at hlt2]; omega
    have b1 : Wt w (j : Int) ≤ 100000 := by unfold Wt; rw [rdj, getD_at hlt]; omega
    have b2 : (rd l (j : Int)).toNat ≤ 23 := by rw [rdj, getD_at hlt2]; omega
    have hp := mul_le_23 b1 b2
    have e3 : rd w (j : Int) * rd l (j : Int) = ((Wt w (j : Int) * (rd l (j : Int)).toNat : Nat) : Int) := by
      rw [Int.natCast_mul, ← e1, ← e2]
    rw [List.range'_succ]
    simp only [List.map_cons, List.sum_cons]
    generalize Wt w (j : Int) * (rd l (j : Int)).toNat = p at hp e3 ⊢
    have h := ih (j + 1) (S + p) (by omega) (step_le hS hp)
    rw [Nat.add_assoc] at h
    refine Ev.step (fun k => ?_) h
    simp only [impl_CostOf.l0]
    rw [if_pos (by omega), if_pos (by omega), if_pos (by omega), if_pos (by omega), e3, w64 (x := (p : Int)) (by omega) (by omega), w64 (x := (S : Int) + (p : Int)) (by omega) (by omega), wj hlt (by omega)]
    rfl
theorem cost_is (w l : List Int) (hn : w.length ≤ 24) (h2 : 2 ≤ w.length) (he : l.length = w.length) (hw : ∀ v ∈ w, 1 ≤ v ∧ v ≤ 100000) (hl : ∀ v ∈ l, 1 ≤ v ∧ v ≤ 23) : Ev (fun k => impl_CostOf.f k w l) (((costN w.length w l : Nat) : Int), true) := by
  have hwt : wtB w = true := (wtB_iff w).2 ⟨by omega, hw⟩
  have hlt : lenB l = true := (lenB_iff l).2 ⟨by omega, fun n hm => by have := hl n hm; omega⟩
  have h0 : ¬ (0 : Int) ∈ l := fun h => by have := hl 0 h; omega
  have h := cost_run w l hn he hw hl w.length 0 0 (by omega) (by omega)
  rw [Nat.zero_add, ← List.range_eq_range'] at h
  unfold impl_CostOf.f
  simp only [areWeights_eq, areLengths_eq, Option.bind_some, hwt, hlt, if_true]
  simp only [if_pos (show (l.length : Int) = (w.length : Int) by omega)]
  refine Ev.bind (Contains_ev l 0 (by omega)) ?_
  refine Ev.step (fun k => ?_) h
  simp only [impl_CostOf.j0]
  rw [if_neg (by simpa using h0)]; rfl
theorem kraftOf_is (l : List Int) (hl : lenB l = true) : Ev (fun k => impl_KraftOf.f k l) (((roomTo 23 l : Nat) : Int), true) := by
  have hm := (lenB_iff l).1 hl
  have h := kraft_run l hm.2 (by omega) l.length 0 0 (by omega) (by omega)
  rw [Nat.zero_add, List.drop_zero] at h
  refine Ev.congr (f := fun k => (impl_kraft.f k l).bind fun t => some (t, true)) (fun k => ?_) (Ev.bind (a := ((roomTo 23 l : Nat) : Int)) h (Ev.now _))
  simp only [impl_KraftOf.f, areLengths_eq, hl, Option.bind_some, if_true]
/-- No code costs less. -/
theorem lens_best {w r o : List Int} {c : Nat} (h : LensOk w r c) (hw : ∀ v ∈ w, 1 ≤ v ∧ v ≤ 100000) (he : o.length = w.length) (ho : ∀ v ∈ o, 1 ≤ v ∧ v ≤ 23) (hk : roomTo 23 o ≤ 2 ^ 23) : c ≤ costN w.length w o := by
  have h1 := Huff.optimal 23 h.merged (((List.range w.length).map (fun i : Nat => (i : Int))).map fun i => (Wt w i, (rd o i).toNat)) ?_ ?_ ?_
  · refine Nat.le_trans h1 (Nat.le_of_eq ?_)
    unfold Huff.cost costN
    rw [List.map_map]; rfl
  · rw [List.map_map]
    have := rng_map w Int.toNat
    refine List.Perm.of_eq ?_
    rw [← this]; rfl
  · intro p hp
    obtain ⟨i, hi, rfl⟩ := List.mem_map.1 hp
    have hi2 := mem_rng.1 hi
    have hlt : i.toNat < o.length := by omega
    have := ho _ (List.getElem_mem hlt)
    have e : rd o i = o[i.toNat] := getD_at hlt 0
    show (rd o i).toNat ≤ 23
    rw [e]; omega
  · unfold Huff.kr
    rw [List.map_map]
    have := rng_map o (fun v => 2 ^ (23 - v.toNat))
    rw [he] at this
    rw [room_sum o ho, ← this] at hk
    exact hk
theorem tmod6 {b : Int} (h0 : 0 ≤ b) (h1 : b ≤ 255) : 0 ≤ Int.tmod b 6 ∧ Int.tmod b 6 ≤ 5 := ⟨Int.tmod_nonneg _ h0, by have := Int.tmod_lt_of_pos b (show (0 : Int) < 6 by omega); omega⟩
/-- What the law draws at last ends. -/
theorem drawCost_l {m : List Int} (hm : Byt m) (w : List Int) (hw : w.length ≤ 200) (d : Nat) : ∀ (j : Nat) (x : List Int) (a s : Int), j + d = w.length → x.length = j → 0 ≤ a → a ≤ 4000 + 2 * j →
    ∃ r, Ev (fun k => spec_DrawCostOf.l0 k w x (w.length : Int) (j : Int) m a s) (w, r) ∧ r.length ≤ 200 := by
  induction d with
  | zero =>
    intro j x a s hj hx _ _
    refine ⟨x, Ev.step (f := fun _ => some (w, x)) (fun k => ?_) (Ev.now _), by omega⟩
    simp only [spec_DrawCostOf.l0]; rw [if_neg (by omega)]
  | succ d ih =>
    intro j x a s hj hx h0 h1
    obtain ⟨r1, a1, s1, e1, _, _, u1, v1⟩ := pick_ok hm a s 7 h0 (by omega)
    obtain ⟨r, h, h2⟩ := ih (j + 1) (x ++ [wrap64 (1 + r1)]) a1 s1 (by omega) (by simp; omega) (by omega) (by push_cast; omega)
    refine ⟨r, Ev.step (fun k => ?_) h, h2⟩
    simp only [spec_DrawCostOf.l0]
    rw [if_pos (by omega), e1]
    simp only [Option.bind_some]
    rw [if_pos (by omega), wj (n := w.length) (by omega) (by omega)]
theorem drawCost_ok {m : List Int} (hm : Byt m) : ∃ a b, Ev (fun k => spec_DrawCostOf.f k m) (a, b) ∧ a.length ≤ 200 ∧ b.length ≤ 200 := by
  obtain ⟨w, a1, s1, e, hw, h0, h1⟩ := weights_ok hm 0 0 (by omega) (by omega)
  obtain ⟨b, a2, s2, e2, u2, v2⟩ := one_ok hm a1 s1 2 h0 (by omega)
  unfold spec_DrawCostOf.f
  cases b with
  | true =>
    obtain ⟨r, q, _, h2, hl, _⟩ := LengthsOf_both w (by omega)
    refine ⟨w, r, Ev.bind e ?_, hw, by omega⟩
    simp only [e2, Option.bind_some, if_true]
    exact Ev.bind h2 (Ev.now _)
  | false =>
    obtain ⟨r, h, hr⟩ := drawCost_l hm w hw w.length 0 [] a2 s2 (by omega) rfl (by omega) (by omega)
    refine ⟨w, r, Ev.bind e ?_, hw, hr⟩
    simp only [e2, Option.bind_some, Bool.false_eq_true, if_false]
    exact h
theorem set_in {o : List Int} {i : Nat} {v : Int} (h : ∀ x ∈ o, 1 ≤ x ∧ x ≤ 23) (hv : 1 ≤ v ∧ v ≤ 23) : ∀ x ∈ o.set i v, 1 ≤ x ∧ x ≤ 23 := by
  intro x hx
  rcases List.mem_or_eq_of_mem_set hx with hx | hx
  · exact h x hx
  · rw [hx]; exact hv
theorem huff_l1 {m w r : List Int} {c : Nat} (hm : Byt m) (h : LensOk w r c) (h2 : 2 ≤ w.length) (hn : w.length ≤ 24) (hw : ∀ v ∈ w, 1 ≤ v ∧ v ≤ 100000) (d : Nat) : ∀ (i : Nat) (o : List Int), i + d = 200 → o.length = w.length → (∀ v ∈ o, 1 ≤ v ∧ v ≤ 23) →
    Ev (fun k => laws_FnHuffman.l1 k m w (c : Int) o (i : Int)) true := by
  induction d with
  | zero =>
    intro i o hi ho hv
    obtain ⟨a, b, e, ha, hb⟩ := drawCost_ok hm
    obtain ⟨q, q1, q2⟩ := CostOf_both a b (by omega) (by omega)
    refine Ev.step (f := fun k => (spec_DrawCostOf.f k m).bind fun bt276 => ((impl_CostOf.f k bt276.1 bt276.2).bind fun bt282 => ((spec_CostOf.f k bt276.1 bt276.2).bind fun bt284 => (if (bt282.2 == bt284.2) = true then (some (bt282.1 == bt284.1)) else (some false))))) (fun k => ?_) (Ev.bind e (Ev.bind q1 (Ev.bind q2 ?_)))
    · simp only [laws_FnHuffman.l1]
      rw [if_neg (by omega)]
    · simp only [beq_self_eq_true, if_true]; exact Ev.now _
  | succ d ih =>
    intro i o hi ho hv
    have hlen : lenB o = true := (lenB_iff o).2 ⟨by omega, fun v hm => by have := hv v hm; omega⟩
    have hk := kraftOf_is o hlen
    have hq0 : 0 ≤ Int.tmod (i : Int) (o.length : Int) := Int.tmod_nonneg _ (by omega)
    have hq1 : Int.tmod (i : Int) (o.length : Int) < (o.length : Int) := Int.tmod_lt_of_pos _ (by omega)
    generalize hq : Int.tmod (i : Int) (o.length : Int) = q at hq0 hq1
    have hlt : q.toNat < o.length := by omega
    have hvq := hv _ (List.getElem_mem hlt)
    have eq : rd o q = o[q.toNat] := getD_at hlt 0
    refine Ev.step (f := fun k => (impl_KraftOf.f k o).bind fun bt286 => (if bt286.2 = true then (if bt286.1 ≤ 8388608 then ((impl_CostOf.f k w o).bind fun bt288 => (if bt288.2 = true then (some (decide (bt288.1 ≥ (c : Int)))) else (some false))) else (if (o.length : Int) = 0 then (none) else (if 0 ≤ q then (if q < (o.length : Int) then (if (rd o q) < 23 then (laws_FnHuffman.l1 k m w (c : Int) (o.set q.toNat (wrap64 ((rd o q) + 1))) (wrap64 ((i : Int) + 1))) else (laws_FnHuffman.l1 k m w (c : Int) o (wrap64 ((i : Int) + 1)))) else (none)) else (none)))) else (some false))) (fun k => ?_) (Ev.bind hk ?_)
    · simp only [laws_FnHuffman.l1]
      rw [if_pos (by omega), hq]
    by_cases c1 : roomTo 23 o ≤ 2 ^ 23
    · have hb := lens_best h hw ho hv c1
      simp only [if_true, if_pos (show ((roomTo 23 o : Nat) : Int) ≤ 8388608 by omega)]
      refine Ev.bind (cost_is w o hn h2 ho hw hv) ?_
      simp only [if_true]
      rw [decide_eq_true (show ((costN w.length w o : Nat) : Int) ≥ (c : Int) by omega)]
      exact Ev.now _
    · simp only [if_true, if_neg (show ¬ ((roomTo 23 o : Nat) : Int) ≤ 8388608 by omega)]
      rw [wj (j := i) (n := 200) (by omega) (by omega)]
      simp only [if_neg (show ¬ (o.length : Int) = 0 by omega), if_pos hq0, if_pos hq1]
      by_cases c2 : rd o q < 23
      · simp only [if_pos c2]
        exact ih (i + 1) _ (by omega) (by simpa using ho) (set_in hv (by rw [w64 (by omega) (by omega)]; omega))
      · simp only [if_neg c2]
        exact ih (i + 1) o (by omega) ho hv
theorem huff_l0 {m w r : List Int} {c : Nat} (hm : Byt m) (h : LensOk w r c) (h2 : 2 ≤ w.length) (hn : w.length ≤ 24) (hw : ∀ v ∈ w, 1 ≤ v ∧ v ≤ 100000) (d : Nat) : ∀ (j : Nat) (o : List Int), j + d = w.length → o.length = w.length → (∀ i, (hi : i < o.length) → i < j → 1 ≤ o[i] ∧ o[i] ≤ 23) →
    Ev (fun k => laws_FnHuffman.l0 k m w (c : Int) o (w.length : Int) (j : Int)) true := by
  induction d with
  | zero =>
    intro j o hj ho hv
    refine Ev.step (fun k => ?_) (huff_l1 hm h h2 hn hw 200 0 o rfl ho (fun v hv2 => by
      obtain ⟨i, hi, rfl⟩ := List.getElem_of_mem hv2
      exact hv i hi (by omega)))
    simp only [laws_FnHuffman.l0]
    rw [if_neg (by omega)]; rfl
  | succ d ih =>
    intro j o hj ho hv
    have hlt : j < o.length := by omega
    have e1 : rd (o.set j 1) (j : Int) = 1 := by
      rw [rdj, getD_at (by simpa using hlt)]; simp
    by_cases c1 : j < m.length
    · have hb := byt_rd hm j c1
      have h6 := tmod6 hb.1 hb.2
      generalize hz : Int.tmod (rd m (j : Int)) 6 = z at h6
      have hh := ih (j + 1) ((o.set j 1).set j (1 + z)) (by omega) (by simpa using ho) (fun i hi hij => by
        by_cases e : i = j
        · subst e; simp; omega
        · rw [List.getElem_set_ne (by omega), List.getElem_set_ne (by omega)]
          exact hv i (by simpa using hi) (by omega))
      refine Ev.step (fun k => ?_) hh
      simp only [laws_FnHuffman.l0, Option.bind_some, Int.toNat_natCast]
      rw [if_pos (by omega), if_pos (by omega), if_pos (by omega), if_pos (by omega), e1, w64 (x := rd m (j : Int)) (by omega) (by omega), hz, w64 (x := 1 + z) (by omega) (by omega), wj (n := w.length) (by omega) (by omega)]
    · have hh := ih (j + 1) (o.set j 1) (by omega) (by simpa using ho) (fun i hi hij => by
        by_cases e : i = j
        · subst e; simp
        · rw [List.getElem_set_ne (by omega)]
          exact hv i (by simpa using hi) (by omega))
      refine Ev.step (fun k => ?_) hh
      simp only [laws_FnHuffman.l0, Option.bind_some, Int.toNat_natCast]
      rw [if_pos (by omega), if_pos (by omega), if_pos (by omega), if_neg (by omega), wj (n := w.length) (by omega) (by omega)]
theorem FnHuffman : laws_FnHuffman.Pure := by
  intro l m _ _ hl _ _ hm
  have hL := byt_of hl
  have hM := byt_of hm
  refine Ev.law ?_
  unfold laws_FnHuffman.f
  by_cases hn : wrap64 ((l.length : Int) + (m.length : Int)) > 1048576
  · exact Ev.congr (fun k => by rw [if_pos hn]) (Ev.now _)
  simp only [if_neg hn]
  obtain ⟨w, a1, s1, e, hw, h0, h1⟩ := weights_ok hL 0 0 (by omega) (by omega)
  obtain ⟨r, b, q1, q2, hr, hf, ht⟩ := LengthsOf_both w (by omega)
  have e' : Ev (fun k => spec_DrawLengthsOf.f k l) w := by
    unfold spec_DrawLengthsOf.f
    exact Ev.bind e (Ev.now _)
  refine Ev.bind e' (Ev.bind q1 (Ev.bind q2 ?_))
  simp only [bne_self_eq_false, Bool.false_eq_true, if_false]
  refine Ev.bind (sameInts_ev r (by omega)) ?_
  simp only [Bool.not_true]
  cases b with
  | false =>
    rw [hf rfl]
    refine Ev.step (f := fun _ => some true) (fun k => ?_) (Ev.now _)
    simp [laws_FnHuffman.j0]
  | true =>
    obtain ⟨hb, c, hc⟩ := ht rfl
    have hwb := (wtB_iff w).1 hb
    have h2 : 2 ≤ w.length := by omega
    have h24 : w.length ≤ 24 := by omega
    have hlen : lenB r = true := (lenB_iff r).2 ⟨by rw [hc.len]; omega, fun v hm => by have := hc.hi v hm; omega⟩
    have hroom : roomTo 23 r = 8388608 := by
      have := rng_map r (fun v => 2 ^ (23 - v.toNat))
      rw [hc.len] at this
      rw [room_sum r hc.hi, ← this]
      exact hc.kr
    have hk := kraftOf_is r hlen
    rw [hroom] at hk
    have hcost := cost_is w r h24 h2 hc.len hwb.2 hc.hi
    rw [hc.cost] at hcost
    refine Ev.step (f := fun k => (impl_KraftOf.f k r).bind fun bt265 => ((impl_CostOf.f k w r).bind fun bt267 => (if bt265.2 = true then (if bt267.2 = true then (laws_FnHuffman.j1 k m w bt267.1 (bt265.1 != 8388608)) else (laws_FnHuffman.j1 k m w bt267.1 true)) else (laws_FnHuffman.j1 k m w bt267.1 true)))) (fun k => ?_) (Ev.bind hk (Ev.bind hcost ?_))
    · simp only [laws_FnHuffman.j0]
      rw [if_neg (by simp), if_pos trivial]
    · simp only [if_true]
      refine Ev.step (fun k => ?_) (huff_l0 hM hc h2 h24 hwb.2 w.length 0 (List.replicate w.length 0) (by omega) (by simp) (fun i _ hi => by omega))
      simp only [laws_FnHuffman.j1, Option.bind_some, Int.toNat_natCast, List.length_replicate]
      rw [if_neg (by decide), if_pos (by omega), if_pos (by omega)]
      rfl

end Go.Proofs.Ytobbhgghpjecjaa.Pure
