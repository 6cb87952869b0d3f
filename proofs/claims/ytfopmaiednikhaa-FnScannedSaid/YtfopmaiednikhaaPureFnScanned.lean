/- What was got twice in a row is not thrown away by what comes once, for drawn entries: the pure part. -/
import Derived.Test.YtfopmaiednikhaaPFnScannedx12
import Derived.Lib.RabinKarpLaws
namespace Go.Proofs.Ytfopmaiednikhaa.Pure
open Go.RowKit Go.Proofs.Ytfopmaiednikhaa.PFnScanned Go.Proofs.YtfopmaiednikhaaW.PrintWords Go.Proofs.YtfopmaiednikhaaW.PrintLast Go.Proofs.YtfopmaiednikhaaW.PrintMore Go.Proofs.YtfopmaiednikhaaOwn
set_option linter.unusedVariables false
set_option linter.unusedSimpArgs false

theorem wj {j n : Nat} (h : j < n) (hn : n ≤ 4611686018427387904) : wrap64 ((j : Int) + 1) = ((j + 1 : Nat) : Int) := by
  unfold wrap64; omega
theorem w64 {x : Int} (h0 : -9223372036854775808 ≤ x) (h1 : x ≤ 9223372036854775807) : wrap64 x = x := by
  unfold wrap64; omega
theorem rdj (l : List Int) (j : Nat) : rd l (j : Int) = l.getD j 0 := rfl
theorem getD_at {α : Type} {l : List α} {j : Nat} (h : j < l.length) (z : α) : l.getD j z = l[j] := by
  rw [List.getD_eq_getElem?_getD, List.getElem?_eq_getElem h]; rfl
theorem Ev.law {g : Nat → Option Bool} (h : Ev g true) : ∃ k, g k = some true := h.rounds
/-- Bytes. -/
def Byt (l : List Int) : Prop := ∀ x ∈ l, 0 ≤ x ∧ x ≤ 255
theorem byt_of {l : List Int} (h : ∀ x ∈ l, (Lit.int .u8 x).wf = true) : Byt l := by
  intro x hx
  have := h x hx
  simp only [Lit.wf, IntKind.min, IntKind.max, IntKind.signed, IntKind.bits, Bool.and_eq_true, decide_eq_true_eq] at this
  simp at this; omega
theorem byt_rd {l : List Int} (hl : Byt l) (j : Nat) (hj : j < l.length) : 0 ≤ rd l (j : Int) ∧ rd l (j : Int) ≤ 255 := by
  rw [rdj, getD_at hj]; exact hl _ (List.getElem_mem hj)
theorem and255 (x : Int) : 0 ≤ Go.bits .and .u64 x 255 ∧ Go.bits .and .u64 x 255 ≤ 255 := by
  have e : ∀ z : Nat, z ≤ 255 → IntKind.u64.wrap (z : Int) = (z : Int) := by
    intro z hz; simp only [IntKind.wrap, IntKind.bits, IntKind.signed]; simp; omega
  have hz : ∀ y : Nat, y &&& 255 ≤ 255 := fun y => Nat.and_le_right
  have : ∃ z : Nat, z ≤ 255 ∧ Go.bits .and .u64 x 255 = (z : Int) := by
    refine ⟨_, hz (x % 18446744073709551616).toNat, ?_⟩
    rw [← e _ (hz _)]
    simp only [Go.bits, IntKind.bits]
    rfl
  obtain ⟨z, h1, h2⟩ := this
  rw [h2]; omega
theorem next_ok {l : List Int} (hl : Byt l) (a s : Int) (h0 : 0 ≤ a) (h1 : a ≤ 4611686018427387904) :
    ∃ r s', spec_l1Cur_next.f l a s = some (r, a + 1, s') ∧ 0 ≤ r ∧ r ≤ 255 := by
  unfold spec_l1Cur_next.f
  have e1 : wrap64 (a + 1) = a + 1 := w64 (by omega) (by omega)
  by_cases c : a < (l.length : Int)
  · have hb := byt_rd hl a.toNat (by omega)
    rw [show ((a.toNat : Nat) : Int) = a from by omega] at hb
    rw [if_pos c, if_pos h0, e1, if_pos (by omega), w64 (x := rd l a) (by omega) (by omega)]
    exact ⟨_, _, rfl, hb.1, hb.2⟩
  · rw [if_neg c, e1, if_neg (by omega)]
    refine ⟨_, _, rfl, ?_⟩
    have hb := and255 (IntKind.u64.wrap (IntKind.u64.wrap (IntKind.u64.wrap (s * 6364136223846793005)) + 1442695040888963407) / 1099511627776)
    rw [w64 (by omega) (by omega)]
    exact hb
theorem pick_ok {l : List Int} (hl : Byt l) (a s n : Int) (h0 : 0 ≤ a) (h1 : a ≤ 4611686018427387900) :
    ∃ r a' s', spec_l1Cur_pick.f l a s n = some (r, a', s') ∧ 0 ≤ r ∧ (r < n ∨ n ≤ 1 ∧ r = 0) ∧ a ≤ a' ∧ a' ≤ a + 2 := by
  unfold spec_l1Cur_pick.f
  by_cases c : n ≤ 1
  · rw [if_pos c]; exact ⟨_, _, _, rfl, by omega, .inr ⟨c, rfl⟩, by omega, by omega⟩
  · obtain ⟨r, s1, e1, g0, g1⟩ := next_ok hl a s h0 (by omega)
    rw [if_neg c, e1]
    simp only [Option.bind_some]
    by_cases c2 : n > 200
    · obtain ⟨r2, s2, e2, k0, k1⟩ := next_ok hl (a + 1) s1 (by omega) (by omega)
      rw [if_pos c2, e2]
      simp only [Option.bind_some]
      rw [if_neg (by omega), w64 (x := r * 256) (by omega) (by omega), w64 (by omega) (by omega)]
      exact ⟨_, _, _, rfl, Int.tmod_nonneg _ (by omega), .inl (Int.tmod_lt_of_pos _ (by omega)), by omega, by omega⟩
    · rw [if_neg c2, if_neg (by omega)]
      exact ⟨_, _, _, rfl, Int.tmod_nonneg _ (by omega), .inl (Int.tmod_lt_of_pos _ (by omega)), by omega, by omega⟩
theorem one_ok {l : List Int} (hl : Byt l) (a s n : Int) (h0 : 0 ≤ a) (h1 : a ≤ 4611686018427387900) :
    ∃ b a' s', spec_l1Cur_one.f l a s n = some (b, a', s') ∧ a ≤ a' ∧ a' ≤ a + 2 := by
  unfold spec_l1Cur_one.f
  obtain ⟨r, a', s', e, _, _, g⟩ := pick_ok hl a s n h0 h1
  rw [e]; exact ⟨_, _, _, rfl, g⟩
theorem rd45j (l : List S45) (j : Nat) (h : j < l.length) : rd_T45 l (j : Int) = l[j] := by
  show l.getD j z45 = _
  exact getD_at h _
def keyE (x : S45) : List UInt8 := x.f0.toList
def entryB (x : S45) : Bool := decide ((1 : Int) ≤ (x.f0.size : Int) ∧ (x.f0.size : Int) ≤ 20 ∧ (x.f1.size : Int) ≤ 60)
theorem spec_entry (x : S45) : spec_l12Entry.f x.f0 x.f1 = some (entryB x) := by
  have e : spec_l12Entry.f x.f0 x.f1 = if (x.f0.size : Int) ≥ 1 then (if decide ((x.f0.size : Int) ≤ 20) = true then some (decide ((x.f1.size : Int) ≤ 60)) else some false) else some false := by
    unfold spec_l12Entry.f spec_l1In.f
    split <;> rfl
  rw [e]; unfold entryB
  by_cases h1 : (x.f0.size : Int) ≥ 1
  · by_cases h2 : (x.f0.size : Int) ≤ 20
    · rw [if_pos h1, if_pos (decide_eq_true h2)]; exact congrArg some (decide_eq_decide.2 ⟨fun h => ⟨h1, h2, h⟩, fun h => h.2.2⟩)
    · rw [if_pos h1, if_neg (by simpa using h2), decide_eq_false (fun h => h2 h.2.1)]
  · rw [if_neg h1, decide_eq_false (fun h => h1 h.1)]
theorem impl_entry (x : S45) : impl_isEntry.f x.f0 x.f1 = some (entryB x) := by
  have e : impl_isEntry.f x.f0 x.f1 = if (1 : Int) ≤ (x.f0.size : Int) then (if decide ((x.f0.size : Int) ≤ 20) = true then some (decide ((x.f1.size : Int) ≤ 60)) else some false) else some false := by
    unfold impl_isEntry.f impl_isKey.f impl_within.f
    split <;> rfl
  rw [e]; unfold entryB
  by_cases h1 : (1 : Int) ≤ (x.f0.size : Int)
  · by_cases h2 : (x.f0.size : Int) ≤ 20
    · rw [if_pos h1, if_pos (decide_eq_true h2)]; exact congrArg some (decide_eq_decide.2 ⟨fun h => ⟨h1, h2, h⟩, fun h => h.2.2⟩)
    · rw [if_pos h1, if_neg (by simpa using h2), decide_eq_false (fun h => h2 h.2.1)]
  · rw [if_neg h1, decide_eq_false (fun h => h1 h.1)]
def roomB (n : Int) : Bool := decide (100 ≤ n ∧ n ≤ 2000)
theorem spec_room (n : Int) : spec_l12Room.f n = some (roomB n) := by
  have e : spec_l12Room.f n = if n ≥ 100 then some (decide (n ≤ 2000)) else some false := by
    unfold spec_l12Room.f spec_l1In.f
    split <;> rfl
  rw [e]; unfold roomB
  by_cases h1 : n ≥ 100
  · rw [if_pos h1]; exact congrArg some (decide_eq_decide.2 ⟨fun h => ⟨h1, h⟩, fun h => h.2⟩)
  · rw [if_neg h1, decide_eq_false (fun h => h1 h.1)]
theorem impl_room (n : Int) : impl_isRoom.f n = some (roomB n) := by
  have e : impl_isRoom.f n = if (100 : Int) ≤ n then some (decide (n ≤ 2000)) else some false := by
    unfold impl_isRoom.f impl_within.f
    split <;> rfl
  rw [e]; unfold roomB
  by_cases h1 : (100 : Int) ≤ n
  · rw [if_pos h1]; exact congrArg some (decide_eq_decide.2 ⟨fun h => ⟨h1, h⟩, fun h => h.2⟩)
  · rw [if_neg h1, decide_eq_false (fun h => h1 h.1)]
theorem At_l (l : List S45) (a : ByteArray) (hn : l.length ≤ 1048576) (d : Nat) : ∀ (j : Nat), j + d = l.length →
    Ev (fun k => spec_l12At.l0 k a l (l.length : Int) (j : Int)) (fndE a (l.drop j) (j : Int)) := by
  induction d with
  | zero =>
    intro j hj
    rw [List.drop_of_length_le (by omega)]
    refine Ev.step (f := fun _ => some (-1)) (fun k => ?_) (Ev.now _)
    simp only [spec_l12At.l0]; rw [if_neg (by omega)]
  | succ d ih =>
    intro j hj
    have hlt : j < l.length := by omega
    rw [List.drop_eq_getElem_cons hlt]
    by_cases c : l[j].f0.toList = a.toList
    · refine Ev.step (f := fun _ => some (j : Int)) (fun k => ?_) (by simp only [fndE]; rw [if_pos (by simpa using c)]; exact Ev.now _)
      simp only [spec_l12At.l0]
      rw [if_pos (by omega), if_pos (by omega), if_pos (by omega), rd45j l j hlt, if_pos c]
    · refine Ev.step (fun k => ?_) (by simp only [fndE]; rw [if_neg (by simpa using c)]; exact ih (j + 1) (by omega))
      simp only [spec_l12At.l0]
      rw [if_pos (by omega), if_pos (by omega), if_pos (by omega), rd45j l j hlt, if_neg c, wj (n := l.length) hlt (by omega)]
theorem At_ev (l : List S45) (a : ByteArray) (hn : l.length ≤ 1048576) : Ev (fun k => spec_l12At.f k l a) (fndE a l 0) :=
  At_l l a hn l.length 0 (by omega)
theorem fnd_has (a : ByteArray) : ∀ (l : List S45) (i : Int), 0 ≤ i → (fndE a l i ≥ 0 ↔ a.toList ∈ l.map keyE)
  | [], i, hi => by simp [fndE]
  | x :: xs, i, hi => by
    simp only [fndE, List.map_cons, List.mem_cons]
    by_cases c : x.f0.toList = a.toList
    · rw [if_pos (by simpa using c)]
      exact ⟨fun _ => .inl c.symm, fun _ => hi⟩
    · rw [if_neg (by simpa using c), fnd_has a xs (i + 1) (by omega)]
      exact ⟨.inr, fun h => h.resolve_left (fun e => c e.symm)⟩
def wgt : Int → List S45 → Int
  | c, [] => c
  | c, x :: xs => wgt (wrap64 (c + wrap64 ((x.f0.size : Int) + (x.f1.size : Int)))) xs
theorem spec_weight_l (l : List S45) (hn : l.length ≤ 1048576) (d : Nat) : ∀ (j : Nat) (c : Int), j + d = l.length →
    Ev (fun k => spec_l12Weight.l0 k c l (l.length : Int) (j : Int)) (wgt c (l.drop j)) := by
  induction d with
  | zero =>
    intro j c hj
    rw [List.drop_of_length_le (by omega)]
    refine Ev.step (f := fun _ => some c) (fun k => ?_) (Ev.now _)
    simp only [spec_l12Weight.l0]; rw [if_neg (by omega)]
  | succ d ih =>
    intro j c hj
    have hlt : j < l.length := by omega
    rw [List.drop_eq_getElem_cons hlt]
    refine Ev.step (fun k => ?_) (ih (j + 1) _ (by omega))
    simp only [spec_l12Weight.l0]
    rw [if_pos (by omega), if_pos (by omega), if_pos (by omega), rd45j l j hlt, wj (n := l.length) hlt (by omega)]
theorem impl_weight_l (l : List S45) (hn : l.length ≤ 1048576) (d : Nat) : ∀ (j : Nat) (c : Int), j + d = l.length →
    Ev (fun k => impl_weight.l0 k c l (l.length : Int) (j : Int)) (wgt c (l.drop j)) := by
  induction d with
  | zero =>
    intro j c hj
    rw [List.drop_of_length_le (by omega)]
    refine Ev.step (f := fun _ => some c) (fun k => ?_) (Ev.now _)
    simp only [impl_weight.l0]; rw [if_neg (by omega)]
  | succ d ih =>
    intro j c hj
    have hlt : j < l.length := by omega
    rw [List.drop_eq_getElem_cons hlt]
    refine Ev.step (fun k => ?_) (ih (j + 1) _ (by omega))
    simp only [impl_weight.l0]
    rw [if_pos (by omega), if_pos (by omega), if_pos (by omega), rd45j l j hlt, wj (n := l.length) hlt (by omega)]
def PartP (l : List S45) (n : Int) : Prop := (∀ x ∈ l, entryB x = true) ∧ (l.map keyE).Nodup ∧ (l.length : Int) ≤ 60 ∧ wgt 0 l ≤ n
def GoodP (n o : Int) (t s : List S45) : Prop := roomB n = true ∧ roomB o = true ∧ PartP t n ∧ PartP s o ∧ ∀ x ∈ s, keyE x ∉ t.map keyE
theorem uniqE_iff : ∀ (l : List S45) (seen : List (List UInt8)), uniqE seen l = true ↔ (l.map keyE).Nodup ∧ ∀ x ∈ l, keyE x ∉ seen
  | [], seen => by simp [uniqE]
  | x :: xs, seen => by
    have e : x.f0.data.toList = keyE x := (ByteArray.toList_eq _).symm
    simp only [uniqE, e, List.map_cons, List.nodup_cons, List.mem_cons, forall_eq_or_imp]
    by_cases c : keyE x ∈ seen
    · rw [if_pos (by simpa using c)]
      exact ⟨fun h => (by cases h), fun h => absurd c h.2.1⟩
    · rw [if_neg (by simpa using c), uniqE_iff xs]
      constructor
      · rintro ⟨h1, h2⟩
        refine ⟨⟨fun hm => ?_, h1⟩, c, fun y hy hm => h2 y hy (List.mem_cons_of_mem _ hm)⟩
        obtain ⟨y, hy, e⟩ := List.mem_map.1 hm
        exact h2 y hy (e ▸ List.mem_cons_self)
      · rintro ⟨⟨h1, h2⟩, _, h4⟩
        refine ⟨h2, fun y hy hm => ?_⟩
        rcases List.mem_cons.1 hm with h | h
        · exact h1 (h ▸ List.mem_map_of_mem hy)
        · exact h4 y hy h
theorem allE_iff : ∀ l : List S45, ∃ b, allE l = some b ∧ (b = true ↔ ∀ x ∈ l, entryB x = true)
  | [] => ⟨true, rfl, by simp⟩
  | x :: xs => by
    obtain ⟨b, h1, h2⟩ := allE_iff xs
    have e : allE (x :: xs) = if entryB x = true then allE xs else some false := by
      show (impl_isEntry.f x.f0 x.f1).bind _ = _
      rw [impl_entry]; rfl
    by_cases c : entryB x = true
    · exact ⟨b, by rw [e, if_pos c, h1], by rw [h2]; simp [c]⟩
    · exact ⟨false, by rw [e, if_neg c], by simp [c]⟩
theorem fits_ev (l : List S45) (n : Int) (hn : l.length ≤ 1048576) : ∃ b, Ev (fun k => impl_fits.f k l n) b ∧ (b = true ↔ (l.length : Int) ≤ 60 ∧ wgt 0 l ≤ n) := by
  by_cases hl : (l.length : Int) ≤ 60
  · refine ⟨decide (wgt 0 l ≤ n), Ev.congr (f := fun k => (impl_weight.f k l).bind fun t => some (decide (t ≤ n))) (fun k => by unfold impl_fits.f; rw [if_pos hl]) (Ev.bind (impl_weight_l l hn l.length 0 0 (by omega)) (Ev.now _)), ?_⟩
    rw [decide_eq_true_eq]
    exact ⟨fun h => ⟨hl, h⟩, fun h => h.2⟩
  · exact ⟨false, Ev.congr (f := fun _ => some false) (fun k => by unfold impl_fits.f; rw [if_neg hl]) (Ev.now _), ⟨fun h => (by cases h), fun h => absurd h.1 hl⟩⟩
theorem Good_impl (n o : Int) (t s : List S45) (ht : t.length ≤ 1048576) (hs : s.length ≤ 1048576) (hz : ∀ x ∈ t ++ s, x.f0.size ≤ 1048576) :
    ∃ b, Ev (fun k => impl_GoodSegmented.f k n o t s) b ∧ (b = true ↔ GoodP n o t s) := by
  have no : ∀ {g : Nat → Option Bool}, (∀ k, g k = some false) → ¬ GoodP n o t s → ∃ b, Ev g b ∧ (b = true ↔ GoodP n o t s) := fun hg hn => ⟨false, Ev.congr (f := fun _ => some false) hg (Ev.now _), ⟨fun h => (by cases h), fun h => absurd h hn⟩⟩
  have bd : ∀ {α : Type} {f : Nat → Option α} {a : α} {g : Nat → α → Option Bool}, Ev f a → (∃ b, Ev (fun k => g k a) b ∧ (b = true ↔ GoodP n o t s)) → ∃ b, Ev (fun k => (f k).bind (g k)) b ∧ (b = true ↔ GoodP n o t s) := fun h ⟨b, h1, h2⟩ => ⟨b, Ev.bind h h1, h2⟩
  unfold impl_GoodSegmented.f
  rw [impl_room, impl_room]
  refine bd (Ev.now _) ?_
  by_cases c1 : roomB n = true
  rotate_left
  · exact no (fun k => by rw [if_neg c1]) (fun h => c1 h.1)
  simp only [if_pos c1]
  refine bd (Ev.now _) ?_
  by_cases c2 : roomB o = true
  rotate_left
  · exact no (fun k => by rw [if_neg c2]) (fun h => c2 h.2.1)
  simp only [if_pos c2]
  obtain ⟨b3, e3, f3⟩ := fits_ev t n ht
  refine bd e3 ?_
  by_cases c3 : b3 = true
  rotate_left
  · exact no (fun k => by rw [if_neg c3]) (fun h => c3 (f3.2 h.2.2.1.2.2))
  simp only [if_pos c3]
  obtain ⟨b4, e4, f4⟩ := fits_ev s o hs
  refine bd e4 ?_
  by_cases c4 : b4 = true
  rotate_left
  · exact no (fun k => by rw [if_neg c4]) (fun h => c4 (f4.2 h.2.2.2.1.2.2))
  simp only [if_pos c4]
  obtain ⟨b5, e5, f5⟩ := allE_iff t
  rw [e5]
  refine bd (Ev.now _) ?_
  by_cases c5 : b5 = true
  rotate_left
  · exact no (fun k => by rw [if_neg c5]) (fun h => c5 (f5.2 h.2.2.1.1))
  simp only [if_pos c5]
  obtain ⟨b6, e6, f6⟩ := allE_iff s
  rw [e6]
  refine bd (Ev.now _) ?_
  by_cases c6 : b6 = true
  rotate_left
  · exact no (fun k => by rw [if_neg c6]) (fun h => c6 (f6.2 h.2.2.2.1.1))
  simp only [if_pos c6]
  have ec : slices_ConcatE.f [t, s] = some (t ++ s) := by
    unfold slices_ConcatE.f
    have e : [t, s].flatten = t ++ s := by simp
    rw [e, if_pos (by rw [List.length_append]; omega)]
  rw [ec]
  refine bd (Ev.now _) ?_
  have ez : ((t ++ s).all fun x => decide (x.f0.size ≤ 9223372036854775807)) = true := by
    rw [List.all_eq_true]; intro x hx
    have := hz x hx
    simp only [decide_eq_true_eq]; omega
  simp only [ez, if_true]
  refine ⟨_, Ev.now _, ?_⟩
  rw [uniqE_iff, List.map_append, List.nodup_append]
  obtain ⟨l3, w3⟩ := f3.1 c3
  obtain ⟨l4, w4⟩ := f4.1 c4
  constructor
  · rintro ⟨⟨h1, h2, h3⟩, _⟩
    exact ⟨c1, c2, ⟨f5.1 c5, h1, l3, w3⟩, ⟨f6.1 c6, h2, l4, w4⟩, fun x hx hm => h3 _ hm _ (List.mem_map_of_mem hx) rfl⟩
  · rintro ⟨_, _, h3, h4, h5⟩
    refine ⟨⟨h3.2.1, h4.2.1, fun a ha b hb e => ?_⟩, fun x hx => by simp⟩
    obtain ⟨x, hx, rfl⟩ := List.mem_map.1 hb
    exact h5 x hx (e ▸ ha)
theorem Own_spec (n o : Int) (t s : List S45) (ht : t.length ≤ 1048576) (hs : s.length ≤ 1048576) : spec_l12Own.f n o t s = some (n, o, t, s) := by
  unfold spec_l12Own.f
  simp only [Option.bind_some, List.length_nil, Nat.zero_add, List.nil_append]
  rw [if_pos (by omega), if_pos (by omega)]
theorem Own_impl (n o : Int) (t s : List S45) (ht : t.length ≤ 1048576) (hs : s.length ≤ 1048576) : impl_Segmented_own.f n o t s = some (n, o, t, s) := by
  unfold impl_Segmented_own.f slices_CloneE.f
  rw [if_pos (by omega), if_pos (by omega)]
  rfl
theorem Without_eq (l : List S45) (j : Nat) (hj : j < l.length) (hn : l.length ≤ 1048576) : spec_l12Without.f l (j : Int) = some (l.eraseIdx j) := by
  unfold spec_l12Without.f
  simp only [Option.bind_some, List.length_nil, Nat.zero_add, List.nil_append, wj (n := l.length) hj (by omega), Int.toNat_natCast]
  rw [if_pos (by omega), if_pos (by omega), if_pos (by simp; omega), if_pos (by omega), if_pos (by omega), if_pos (by simp; omega), List.eraseIdx_eq_take_drop_succ]
def sumE : List S45 → Nat
  | [] => 0
  | x :: xs => x.f0.size + x.f1.size + sumE xs
theorem sumE_le : ∀ l : List S45, (∀ x ∈ l, x.f0.size ≤ 1048576 ∧ x.f1.size ≤ 1048576) → sumE l ≤ 2097152 * l.length
  | [], _ => Nat.le_refl _
  | x :: xs, h => by
    have h1 := h x List.mem_cons_self
    have h2 := sumE_le xs (fun y hy => h y (List.mem_cons_of_mem _ hy))
    simp only [sumE, List.length_cons]; omega
theorem wgt_sum : ∀ (l : List S45) (c : Nat), c + sumE l ≤ 4398046511104 → wgt (c : Int) l = ((c + sumE l : Nat) : Int)
  | [], c, _ => rfl
  | x :: xs, c, h => by
    simp only [sumE] at h
    unfold wgt
    rw [w64 (x := (x.f0.size : Int) + (x.f1.size : Int)) (by omega) (by omega), w64 (by omega) (by omega), show (c : Int) + ((x.f0.size : Int) + (x.f1.size : Int)) = ((c + (x.f0.size + x.f1.size) : Nat) : Int) by omega, wgt_sum xs _ (by omega)]
    simp only [sumE]; omega
theorem ahead_spec (l : List S45) (a b : ByteArray) (h : l.length ≤ 1048576) : spec_l12Ahead.f l a b = some (⟨a, b⟩ :: l) := by
  unfold spec_l12Ahead.f
  simp only [Option.bind_some]
  rw [if_pos (by simp; omega)]; rfl
theorem ahead_impl (l : List S45) (a b : ByteArray) (h : l.length ≤ 1048576) : impl_ahead.f l a b = some (⟨a, b⟩ :: l) := by
  unfold impl_ahead.f
  rw [if_pos (by omega)]
def fitsP (l : List S45) (n : Int) : Prop := (l.length : Int) ≤ 60 ∧ wgt 0 l ≤ n
theorem take_last (s : List S45) (m : Nat) (hs : s.length = m + 1) : s = s.take m ++ [s[m]'(by omega)] := by
  have h := List.take_succ_eq_append_getElem (show m < s.length by omega)
  rw [← h, List.take_of_length_le (by omega)]
theorem fit0 (n o : Int) (ho : 0 ≤ o) : ∀ (m : Nat) (s t : List S45), s.length = m → t.length + s.length ≤ 1000 →
    ∃ t' s' r, Ev (fun k => settleE.l0 k o t s) (t', s') ∧ (∀ R, Ev (fun k => spec_l12Fit.j1 k n o t' s') R → Ev (fun k => spec_l12Fit.l0 k (s.length : Int) n o t s) R) ∧ t' = r ++ t ∧ s = s' ++ r ∧ fitsP s' o ∧ (∀ p, p <+: s → fitsP p o → p <+: s')
  | 0, s, t, hs, hl => by
    have e : s = [] := List.eq_nil_of_length_eq_zero hs
    subst e
    obtain ⟨b, f1, f2⟩ := fits_ev ([] : List S45) o (by simp)
    have hb : b = true := f2.2 ⟨by simp, ho⟩
    subst hb
    refine ⟨t, [], [], Ev.step (fun k => by simp only [settleE.l0] <;> rfl) (Ev.bind f1 ?_), fun R hR => Ev.step (fun k => ?_) hR, rfl, rfl, ⟨by simp, ho⟩, fun p hp _ => hp⟩
    · simp only [if_true]; exact Ev.now _
    · simp only [spec_l12Fit.l0]; rw [if_neg (by simp)]
  | m + 1, s, t, hs, hl => by
    obtain ⟨b, f1, f2⟩ := fits_ev s o (by omega)
    have hw := spec_weight_l s (by omega) s.length 0 0 (by omega)
    have hm : m < s.length := by omega
    have er : rd_T45 s ((s.length : Int) - 1) = s[m] := by rw [show (s.length : Int) - 1 = (m : Int) by omega]; exact rd45j s m hm
    have er2 : wrap64 ((s.length : Int) - 1) = (m : Int) := by rw [w64 (by omega) (by omega)]; omega
    have em : s.length - 1 = m := by omega
    have hX : ∀ k, (if 0 ≤ (m : Int) then (if (m : Int) < (s.length : Int) then ((spec_l12Ahead.f t ((rd_T45 s (m : Int)).f0) ((rd_T45 s (m : Int)).f1)).bind fun t219 => (if (m : Int) ≤ (s.length : Int) then (spec_l12Fit.l0 k (m : Int) n o t219 (s.take ((m : Int)).toNat)) else (none))) else (none)) else (none)) = spec_l12Fit.l0 k (m : Int) n o (⟨s[m].f0, s[m].f1⟩ :: t) (s.take m) := fun k => by
      rw [if_pos (by omega), if_pos (by omega), rd45j s m hm, ahead_spec _ _ _ (by omega)]
      simp only [Option.bind_some]
      rw [if_pos (by omega), Int.toNat_natCast]
    have hstep : ∀ k, spec_l12Fit.l0 (k + 1) (s.length : Int) n o t s = if (s.length : Int) > 60 then spec_l12Fit.l0 k (m : Int) n o (⟨s[m].f0, s[m].f1⟩ :: t) (s.take m) else ((spec_l12Weight.f k s).bind fun t246 => if t246 > o then spec_l12Fit.l0 k (m : Int) n o (⟨s[m].f0, s[m].f1⟩ :: t) (s.take m) else spec_l12Fit.j1 k n o t s) := fun k => by
      simp only [spec_l12Fit.l0, er2]
      rw [if_pos (by omega), hX]
    by_cases hb : b = true
    · subst hb
      obtain ⟨h60, hwo⟩ := f2.1 rfl
      refine ⟨t, s, [], Ev.step (fun k => by simp only [settleE.l0] <;> rfl) (Ev.bind f1 ?_), fun R hR => Ev.step (fun k => by rw [hstep, if_neg (by omega)] <;> rfl) (Ev.bind hw ?_), rfl, by simp, ⟨h60, hwo⟩, fun p hp _ => hp⟩
      · simp only [if_true]; exact Ev.now _
      · rw [List.drop_zero]
        simp only [if_neg (show ¬ wgt 0 s > o by omega)]; exact hR
    · obtain ⟨t', s', r, g1, g2, g3, g4, g5, g6⟩ := fit0 n o ho m (s.take m) (⟨s[m].f0, s[m].f1⟩ :: t) (by simp; omega) (by simp; omega)
      have elen : ((s.take m).length : Int) = (m : Int) := by simp; omega
      rw [elen] at g2
      refine ⟨t', s', r ++ [s[m]], Ev.step (fun k => by simp only [settleE.l0] <;> rfl) (Ev.bind f1 ?_), fun R hR => ?_, by rw [g3]; simp, by rw [← List.append_assoc, ← g4]; exact take_last s m hs, g5, fun p hp hf => g6 p (List.prefix_take_iff.2 ⟨hp, ?_⟩) hf⟩
      rotate_left
      rotate_left
      · have h1 := hp.length_le
        by_cases c : p.length = s.length
        · rw [hp.eq_of_length c] at hf
          exact absurd (f2.2 hf) hb
        · omega
      · simp only [if_neg hb]
        refine Ev.congr (fun k => ?_) g1
        rw [if_pos (by omega), er, ahead_impl _ _ _ (by omega), em]
        rfl
      · have go := g2 R hR
        by_cases c60 : (s.length : Int) > 60
        · exact Ev.step (fun k => by rw [hstep, if_pos c60]) go
        · have hwo : wgt 0 s > o := by
            have : ¬ ((s.length : Int) ≤ 60 ∧ wgt 0 s ≤ o) := fun h => hb (f2.2 h)
            omega
          refine Ev.step (fun k => by rw [hstep, if_neg c60] <;> rfl) (Ev.bind hw ?_)
          rw [List.drop_zero]
          simp only [if_pos hwo]; exact go
theorem fit1 (n o : Int) (hn : 0 ≤ n) (s : List S45) (hs : s.length ≤ 1000) : ∀ (m : Nat) (t th : List S45), t.length = m → th.length + t.length ≤ 1000 →
    ∃ t' th' r, Ev (fun k => settleE.l1 k n t th) (t', th') ∧ Ev (fun k => spec_l12Fit.l1 k th (t.length : Int) n o t s) (n, o, t', s, th') ∧ t = t' ++ r ∧ th' = th ++ r.reverse ∧ fitsP t' n ∧ (∀ p, p <+: t → fitsP p n → p <+: t')
  | 0, t, th, ht, hl => by
    have e : t = [] := List.eq_nil_of_length_eq_zero ht
    subst e
    obtain ⟨b, f1, f2⟩ := fits_ev ([] : List S45) n (by simp)
    have hb : b = true := f2.2 ⟨by simp, hn⟩
    subst hb
    refine ⟨[], th, [], Ev.step (fun k => by simp only [settleE.l1] <;> rfl) (Ev.bind f1 ?_), Ev.step (f := fun _ => some (n, o, [], s, th)) (fun k => ?_) (Ev.now _), rfl, by simp, ⟨by simp, hn⟩, fun p hp _ => hp⟩
    · simp only [if_true]; exact Ev.now _
    · simp only [spec_l12Fit.l1]; rw [if_neg (by simp), Own_spec n o [] s (by simp) (by omega)]; rfl
  | m + 1, t, th, ht, hl => by
    obtain ⟨b, f1, f2⟩ := fits_ev t n (by omega)
    have hw := spec_weight_l t (by omega) t.length 0 0 (by omega)
    have hm : m < t.length := by omega
    have er : rd_T45 t ((t.length : Int) - 1) = t[m] := by rw [show (t.length : Int) - 1 = (m : Int) by omega]; exact rd45j t m hm
    have er2 : wrap64 ((t.length : Int) - 1) = (m : Int) := by rw [w64 (by omega) (by omega)]; omega
    have em : t.length - 1 = m := by omega
    have hX : ∀ k, (if 0 ≤ (m : Int) then (if (m : Int) < (t.length : Int) then (if th.length < 4398046511104 then (if (m : Int) ≤ (t.length : Int) then (spec_l12Fit.l1 k (th ++ [(⟨(rd_T45 t (m : Int)).f0, (rd_T45 t (m : Int)).f1⟩ : S45)]) (m : Int) n o (t.take ((m : Int)).toNat) s) else (none)) else (none)) else (none)) else (none)) = spec_l12Fit.l1 k (th ++ [t[m]]) (m : Int) n o (t.take m) s := fun k => by
      rw [if_pos (by omega), if_pos (by omega), if_pos (by omega), if_pos (by omega), rd45j t m hm, Int.toNat_natCast]
    have hstep : ∀ k, spec_l12Fit.l1 (k + 1) th (t.length : Int) n o t s = if (t.length : Int) > 60 then spec_l12Fit.l1 k (th ++ [t[m]]) (m : Int) n o (t.take m) s else ((spec_l12Weight.f k t).bind fun t246 => if t246 > n then spec_l12Fit.l1 k (th ++ [t[m]]) (m : Int) n o (t.take m) s else some (n, o, t, s, th)) := fun k => by
      simp only [spec_l12Fit.l1, er2]
      rw [if_pos (by omega), hX, Own_spec n o t s (by omega) (by omega)]; rfl
    by_cases hb : b = true
    · subst hb
      obtain ⟨h60, hwo⟩ := f2.1 rfl
      refine ⟨t, th, [], Ev.step (fun k => by simp only [settleE.l1] <;> rfl) (Ev.bind f1 ?_), Ev.step (fun k => by rw [hstep, if_neg (by omega)] <;> rfl) (Ev.bind hw ?_), by simp, by simp, ⟨h60, hwo⟩, fun p hp _ => hp⟩
      · simp only [if_true]; exact Ev.now _
      · rw [List.drop_zero]
        simp only [if_neg (show ¬ wgt 0 t > n by omega)]; exact Ev.now _
    · obtain ⟨t', th', r, g1, g2, g3, g4, g5, g6⟩ := fit1 n o hn s hs m (t.take m) (th ++ [t[m]]) (by simp; omega) (by simp; omega)
      have elen : ((t.take m).length : Int) = (m : Int) := by simp; omega
      rw [elen] at g2
      refine ⟨t', th', r ++ [t[m]], Ev.step (fun k => by simp only [settleE.l1] <;> rfl) (Ev.bind f1 ?_), ?_, by rw [← List.append_assoc, ← g3]; exact take_last t m ht, by rw [g4]; simp, g5, fun p hp hf => g6 p (List.prefix_take_iff.2 ⟨hp, ?_⟩) hf⟩
      rotate_left
      rotate_left
      · have h1 := hp.length_le
        by_cases c : p.length = t.length
        · rw [hp.eq_of_length c] at hf
          exact absurd (f2.2 hf) hb
        · omega
      · simp only [if_neg hb]
        refine Ev.congr (fun k => ?_) g1
        rw [if_pos (by omega), if_pos (by omega), er, em]
      · by_cases c60 : (t.length : Int) > 60
        · exact Ev.step (fun k => by rw [hstep, if_pos c60]) g2
        · have hwo : wgt 0 t > n := by
            have : ¬ ((t.length : Int) ≤ 60 ∧ wgt 0 t ≤ n) := fun h => hb (f2.2 h)
            omega
          refine Ev.step (fun k => by rw [hstep, if_neg c60] <;> rfl) (Ev.bind hw ?_)
          rw [List.drop_zero]
          simp only [if_pos hwo]; exact g2
theorem fit_both (n o : Int) (hn : 0 ≤ n) (ho : 0 ≤ o) (t s : List S45) (hl : t.length + s.length ≤ 1000) :
    ∃ t' s' th m r, Ev (fun k => settleE.f k n o t s) (t', s', th) ∧ Ev (fun k => spec_l12Fit.f k n o t s) (n, o, t', s', th) ∧ m ++ t = t' ++ r ∧ s = s' ++ m ∧ th = r.reverse ∧ fitsP t' n ∧ fitsP s' o ∧ (∀ p, p <+: s → fitsP p o → p <+: s') ∧ (∀ p, p <+: m ++ t → fitsP p n → p <+: t') := by
  obtain ⟨t1, s1, m, g1, g2, g3, g4, g5, g6⟩ := fit0 n o ho s.length s t rfl hl
  have hl1 : t1.length + s1.length ≤ 1000 := by
    rw [g4] at hl; rw [g3]; simp only [List.length_append] at hl ⊢; omega
  obtain ⟨t2, th, r, h1, h2, h3, h4, h5, h6⟩ := fit1 n o hn s1 (by omega) t1.length t1 [] rfl (by simp; omega)
  refine ⟨t2, s1, th, m, r, ?_, ?_, by rw [← g3]; exact h3, g4, by rw [h4]; rfl, h5, g5, g6, fun p hp hf => h6 p (by rw [g3]; exact hp) hf⟩
  · unfold settleE.f
    exact Ev.bind g1 (Ev.bind h1 (Ev.now _))
  · unfold spec_l12Fit.f
    exact g2 _ (Ev.step (fun k => by simp only [spec_l12Fit.j1]) h2)

def PreP (t s : List S45) : Prop := (∀ x ∈ t ++ s, entryB x = true) ∧ ((t ++ s).map keyE).Nodup
theorem good_pre {n o : Int} {t s : List S45} (h : GoodP n o t s) : PreP t s := by
  obtain ⟨_, _, ht, hs, hd⟩ := h
  refine ⟨fun x hx => (List.mem_append.1 hx).elim (ht.1 x) (hs.1 x), ?_⟩
  rw [List.map_append, List.nodup_append]
  refine ⟨ht.2.1, hs.2.1, fun a ha b hb e => ?_⟩
  obtain ⟨x, hx, rfl⟩ := List.mem_map.1 hb
  exact hd x hx (e ▸ ha)
theorem pre_good {n o : Int} {t s : List S45} (hn : roomB n = true) (ho : roomB o = true) (h : PreP t s) (ft : fitsP t n) (fs : fitsP s o) : GoodP n o t s := by
  obtain ⟨h1, h2⟩ := h
  rw [List.map_append, List.nodup_append] at h2
  exact ⟨hn, ho, ⟨fun x hx => h1 x (List.mem_append_left _ hx), h2.1, ft⟩, ⟨fun x hx => h1 x (List.mem_append_right _ hx), h2.2.1, fs⟩, fun x hx hm => h2.2.2 _ hm _ (List.mem_map_of_mem hx) rfl⟩
theorem pre_perm {t s t' s' r : List S45} (hp : (t' ++ s' ++ r).Perm (t ++ s)) (h : PreP t s) : PreP t' s' := by
  refine ⟨fun x hx => h.1 x (hp.mem_iff.1 (List.mem_append_left _ hx)), ?_⟩
  have := (hp.map keyE).nodup_iff.2 h.2
  rw [List.map_append] at this
  exact (List.nodup_append.1 this).1
theorem fit_perm {t s t' s' m r : List S45} (h1 : m ++ t = t' ++ r) (h2 : s = s' ++ m) : (t' ++ s' ++ r).Perm (t ++ s) := by
  subst h2
  have e1 : (t' ++ s' ++ r).Perm ((t' ++ r) ++ s') := by
    rw [List.append_assoc, List.append_assoc]; exact List.Perm.append_left _ List.perm_append_comm
  refine e1.trans ?_
  rw [← h1, List.append_assoc]
  refine List.perm_append_comm.trans ?_
  rw [List.append_assoc]
theorem fndE_key (a : ByteArray) : ∀ (l : List S45) (i j : Nat) (hj : j < l.length), fndE a l i = ((i + j : Nat) : Int) → keyE l[j] = a.toList
  | x :: xs, i, j, hj, h => by
    simp only [fndE] at h
    by_cases c : x.f0.toList = a.toList
    · rw [if_pos (by simpa using c)] at h
      obtain rfl : j = 0 := by omega
      exact c
    · rw [if_neg (by simpa using c)] at h
      cases j with
      | zero =>
        have h' : fndE a xs ((i + 1 : Nat) : Int) = ((i + 0 : Nat) : Int) := h
        rcases fndE_range a xs (i + 1) with e | ⟨j, hj, e⟩ <;> omega
      | succ j => exact fndE_key a xs (i + 1) j (by simpa using hj) (by have h' : fndE a xs ((i + 1 : Nat) : Int) = ((i + (j + 1) : Nat) : Int) := h; omega)
theorem fndE_cases (a : ByteArray) (l : List S45) : (fndE a l 0 = -1 ∧ a.toList ∉ l.map keyE) ∨ ∃ j, ∃ h : j < l.length, fndE a l 0 = (j : Int) ∧ keyE l[j] = a.toList := by
  rcases fndE_at a l with e | ⟨j, hj, e⟩
  · exact .inl ⟨e, fun h => by have := (fnd_has a l 0 (by omega)).2 h; omega⟩
  · exact .inr ⟨j, hj, e, fndE_key a l 0 j hj (by rw [Nat.zero_add]; exact e)⟩
theorem one_fits {e : S45} {o : Int} (he : entryB e = true) (ho : roomB o = true) : fitsP [e] o := by
  have h1 := of_decide_eq_true he
  have h2 := of_decide_eq_true ho
  refine ⟨by simp, ?_⟩
  simp only [wgt]
  rw [w64 (x := (e.f0.size : Int) + (e.f1.size : Int)) (by omega) (by omega), w64 (by omega) (by omega)]
  omega
theorem fitsP_perm {l l' : List S45} {n : Int} (hz : ∀ x ∈ l, entryB x = true) (hp : l'.Perm l) (h : fitsP l n) : fitsP l' n := by
  have hs : ∀ {l l' : List S45}, l'.Perm l → sumE l' = sumE l := by
    intro l l' hp
    induction hp with
    | nil => rfl
    | cons x _ ih => simp only [sumE]; omega
    | swap x y l => simp only [sumE]; omega
    | trans _ _ h1 h2 => omega
  have hb : ∀ x ∈ l, x.f0.size ≤ 1048576 ∧ x.f1.size ≤ 1048576 := fun x hx => by have := of_decide_eq_true (hz x hx); omega
  have h1 := sumE_le l hb
  have h2 := hs hp
  have hl := h.1
  refine ⟨by rw [hp.length_eq]; exact h.1, ?_⟩
  have e1 : wgt 0 l' = _ := wgt_sum l' 0 (by omega)
  have e2 : wgt 0 l = _ := wgt_sum l 0 (by omega)
  have := h.2
  omega
theorem cons_erase_perm (s : List S45) (j : Nat) (hj : j < s.length) : (s[j] :: s.eraseIdx j).Perm s := by
  rw [List.eraseIdx_eq_take_drop_succ]
  refine (List.perm_middle (l₁ := s.take j)).symm.trans ?_
  rw [← List.drop_eq_getElem_cons hj, List.take_append_drop]
/-- Asking: both alike, the good state stays good; what lies there lay there. -/
theorem Get_both (n o : Int) (t s : List S45) (a : ByteArray) (hg : GoodP n o t s) :
    ∃ t' s' v b r, Ev (fun k => spec_l12Get.f k n o t s a) (n, o, t', s', v, b) ∧ Ev (fun k => impl_Segmented_get.f k n o t s a) (n, o, t', s', v, b) ∧ GoodP n o t' s' ∧ (t' ++ s' ++ r).Perm (t ++ s) ∧
      ((b = true ∧ ∃ e q, s' = e :: q ∧ keyE e = a.toList ∧ v = e.f1 ∧ e ∈ t ++ s) ∨ (b = false ∧ v = ⟨#[]⟩ ∧ a.toList ∉ (t ++ s).map keyE ∧ t' = t ∧ s' = s)) := by
  have hpre := good_pre hg
  have hg' := hg
  obtain ⟨hn, ho, hpt, hps, hd⟩ := hg
  have hn0 : 0 ≤ n := by have := of_decide_eq_true hn; omega
  have ho0 : 0 ≤ o := by have := of_decide_eq_true ho; omega
  have lt : t.length ≤ 60 := by have := hpt.2.2.1; omega
  have ls : s.length ≤ 60 := by have := hps.2.2.1; omega
  have hat0 := At_ev s a (by omega)
  have at' := At_ev t a (by omega)
  unfold spec_l12Get.f impl_Segmented_get.f
  rw [Own_impl n o t s (by omega) (by omega)]
  rcases fndE_cases a s with ⟨e, ne⟩ | ⟨j, hj, e, kj⟩
  · rcases fndE_cases a t with ⟨f, nf⟩ | ⟨i, hi, f, ki⟩
    · refine ⟨t, s, ⟨#[]⟩, false, [], Ev.bind hat0 ?_, Ev.bind (Ev.now _) ?_, hg', by rw [List.append_nil], .inr ⟨rfl, rfl, ?_, rfl, rfl⟩⟩
      · simp only [if_neg (show ¬ fndE a s 0 ≥ 0 by omega)]
        refine Ev.bind at' ?_
        simp only [if_pos (show fndE a t 0 < 0 by omega)]
        exact Ev.now _
      · simp only [takeE, if_neg (show ¬ 0 ≤ fndE a s 0 by omega), if_neg (show ¬ 0 ≤ fndE a t 0 by omega)]
        exact Ev.now _
      · rw [List.map_append, List.mem_append]
        exact fun h => h.elim nf ne
    · have hle := List.length_eraseIdx_le t i
      obtain ⟨t', s', th, m, r, g1, g2, g3, g4, g5, g6, g7, g8, _⟩ := fit_both n o hn0 ho0 (t.eraseIdx i) (t[i] :: s) (by simp only [List.length_cons]; omega)
      have hp0 : (t.eraseIdx i ++ t[i] :: s).Perm (t ++ s) := by
        refine List.perm_middle.trans ?_
        exact (cons_erase_perm t i hi).append_right s
      have hp := (fit_perm g3 g4).trans hp0
      have hone := g8 [t[i]] ⟨s, rfl⟩ (one_fits (hpt.1 _ (List.getElem_mem hi)) ho)
      obtain ⟨q, hq⟩ := hone
      refine ⟨t', s', t[i].f1, true, r, Ev.bind hat0 ?_, Ev.bind (Ev.now _) ?_, pre_good hn ho (pre_perm hp hpre) g6 g7, hp, .inl ⟨rfl, t[i], q, hq.symm, ki, rfl, List.mem_append_left _ (List.getElem_mem hi)⟩⟩
      · simp only [if_neg (show ¬ fndE a s 0 ≥ 0 by omega)]
        refine Ev.bind at' ?_
        simp only [f, if_neg (show ¬ (i : Int) < 0 by omega), if_pos (show 0 ≤ (i : Int) by omega), if_pos (show (i : Int) < (t.length : Int) by omega), Without_eq t i hi (by omega), Option.bind_some, rd45j t i hi, ahead_spec s _ _ (show s.length ≤ 1048576 by omega)]
        exact Ev.bind g2 (Ev.now _)
      · simp only [takeE, if_neg (show ¬ 0 ≤ fndE a s 0 by omega), f, if_pos (show 0 ≤ (i : Int) by omega), Int.toNat_natCast, if_true, rd45j t i hi, ahead_impl s _ _ (show s.length ≤ 1048576 by omega), Option.bind_some]
        exact Ev.bind g1 (Ev.now _)
  · have hle := List.length_eraseIdx_le s j
    have hcp := cons_erase_perm s j hj
    have hlen : (⟨s[j].f0, s[j].f1⟩ :: s.eraseIdx j : List S45).length = s.length := hcp.length_eq
    have hfs : fitsP (s[j] :: s.eraseIdx j) o := fitsP_perm hps.1 hcp hps.2.2
    obtain ⟨b, f1, f2⟩ := fits_ev (⟨s[j].f0, s[j].f1⟩ :: s.eraseIdx j) o (by omega)
    have hb : b = true := f2.2 hfs
    subst hb
    obtain ⟨b', f3, f4⟩ := fits_ev t n (by omega)
    have hb' : b' = true := f4.2 hpt.2.2
    subst hb'
    have hset : Ev (fun k => settleE.f k n o t (⟨s[j].f0, s[j].f1⟩ :: s.eraseIdx j)) (t, ⟨s[j].f0, s[j].f1⟩ :: s.eraseIdx j, []) := by
      unfold settleE.f
      refine Ev.bind (a := (t, ⟨s[j].f0, s[j].f1⟩ :: s.eraseIdx j)) (Ev.step (fun k => by simp only [settleE.l0] <;> rfl) (Ev.bind f1 ?_)) (Ev.bind (a := (t, [])) (Ev.step (fun k => by simp only [settleE.l1] <;> rfl) (Ev.bind f3 ?_)) (Ev.now _))
      · simp only [if_true]; exact Ev.now _
      · simp only [if_true]; exact Ev.now _
    have hp : (t ++ (s[j] :: s.eraseIdx j) ++ []).Perm (t ++ s) := by rw [List.append_nil]; exact hcp.append_left t
    refine ⟨t, s[j] :: s.eraseIdx j, s[j].f1, true, [], Ev.bind hat0 ?_, Ev.bind (Ev.now _) ?_, pre_good hn ho (pre_perm hp hpre) hpt.2.2 hfs, hp, .inl ⟨rfl, s[j], _, rfl, kj, rfl, List.mem_append_right _ (List.getElem_mem hj)⟩⟩
    · simp only [e, if_pos (show (j : Int) ≥ 0 by omega), if_pos (show 0 ≤ (j : Int) by omega), if_pos (show (j : Int) < (s.length : Int) by omega), Without_eq s j hj (show s.length ≤ 1048576 by omega), Option.bind_some, rd45j s j hj, ahead_spec (s.eraseIdx j) _ _ (show (s.eraseIdx j).length ≤ 1048576 by omega)]
      exact Ev.now _
    · simp only [takeE, e, if_pos (show 0 ≤ (j : Int) by omega), Int.toNat_natCast, if_true, rd45j s j hj, ahead_impl (s.eraseIdx j) _ _ (show (s.eraseIdx j).length ≤ 1048576 by omega), Option.bind_some]
      exact Ev.bind hset (Ev.now _)
/-- Putting: both alike, the good state stays good; what is there afterwards. -/
theorem Put_both (n o : Int) (t s : List S45) (a b : ByteArray) (hg : GoodP n o t s) (he : entryB ⟨a, b⟩ = true) :
    ∃ t' s' th, Ev (fun k => spec_l12Put.f k n o t s a b) (n, o, t', s', th) ∧ Ev (fun k => impl_Segmented_put.f k n o t s a b) (n, o, t', s', th) ∧ GoodP n o t' s' ∧ ((t' ++ s' ++ th).map keyE).Nodup ∧ (∀ x ∈ t' ++ s' ++ th, x = ⟨a, b⟩ ∨ x ∈ t ++ s) ∧
      (t' ++ s' ++ th).length = (t ++ s).length + (if a.toList ∈ (t ++ s).map keyE then 0 else 1) ∧ (⟨a, b⟩ : S45) ∈ t' ++ s' ∧ (a.toList ∉ s.map keyE → s' = s) := by
  have hpre := good_pre hg
  obtain ⟨hn, ho, hpt, hps, hd⟩ := hg
  have hn0 : 0 ≤ n := by have := of_decide_eq_true hn; omega
  have ho0 : 0 ≤ o := by have := of_decide_eq_true ho; omega
  have lt : t.length ≤ 60 := by have := hpt.2.2.1; omega
  have ls : s.length ≤ 60 := by have := hps.2.2.1; omega
  have hat0 := At_ev s a (by omega)
  have at' := At_ev t a (by omega)
  have fin : ∀ (t0 s0 : List S45) (t' s' th m r : List S45), m ++ t0 = t' ++ r → s0 = s' ++ m → th = r.reverse → ((t0 ++ s0).map keyE).Nodup → (∀ x ∈ t0 ++ s0, x = ⟨a, b⟩ ∨ x ∈ t ++ s) → fitsP t' n → fitsP s' o →
      GoodP n o t' s' ∧ ((t' ++ s' ++ th).map keyE).Nodup ∧ (∀ x ∈ t' ++ s' ++ th, x = ⟨a, b⟩ ∨ x ∈ t ++ s) ∧ (t' ++ s' ++ th).length = (t0 ++ s0).length := by
    intro t0 s0 t' s' th m r h1 h2 h3 h4 h5 h6 h7
    have hp := fit_perm h1 h2
    have hp' : (t' ++ s' ++ th).Perm (t0 ++ s0) := by rw [h3]; exact ((List.reverse_perm r).append_left _).trans hp
    refine ⟨pre_good hn ho (pre_perm hp ⟨fun x hx => ?_, h4⟩) h6 h7, (hp'.map keyE).nodup_iff.2 h4, fun x hx => h5 x (hp'.mem_iff.1 hx), hp'.length_eq⟩
    rcases h5 x hx with e | e
    · rw [e]; exact he
    · exact hpre.1 x e
  have hown : ∀ t' s' : List S45, GoodP n o t' s' → impl_Segmented_own.f n o t' s' = some (n, o, t', s') := fun t' s' h => by
    have h1 := h.2.2.1.2.2.1
    have h2 := h.2.2.2.1.2.2.1
    exact Own_impl n o t' s' (by omega) (by omega)
  unfold spec_l12Put.f impl_Segmented_put.f
  rw [Own_impl n o t s (by omega) (by omega)]
  rcases fndE_cases a s with ⟨e, ne⟩ | ⟨j, hj, e, kj⟩
  · have stay : ∀ {t0 s' m : List S45}, s = s' ++ m → (∀ p, p <+: s → fitsP p o → p <+: s') → m = [] ∧ s' = s := by
      intro t0 s' m h1 h2
      have h3 := (h2 s (List.prefix_refl _) hps.2.2).length_le
      have h4 := congrArg List.length h1
      rw [List.length_append] at h4
      have hm : m = [] := List.eq_nil_of_length_eq_zero (by omega)
      subst hm
      exact ⟨rfl, by rw [h1, List.append_nil]⟩
    rcases fndE_cases a t with ⟨f, nf⟩ | ⟨i, hi, f, ki⟩
    · obtain ⟨t', s', th, m, r, g1, g2, g3, g4, g5, g6, g7, g8, g9⟩ := fit_both n o hn0 ho0 (⟨a, b⟩ :: t) s (by simp only [List.length_cons]; omega)
      obtain ⟨hm, hs'⟩ := stay (t0 := t) g4 g8
      have nk : a.toList ∉ (t ++ s).map keyE := by rw [List.map_append, List.mem_append]; exact fun h => h.elim nf ne
      obtain ⟨k1, k2, k3, k4⟩ := fin (⟨a, b⟩ :: t) s t' s' th m r g3 g4 g5 (by
        rw [List.cons_append, List.map_cons, List.nodup_cons]; exact ⟨nk, hpre.2⟩) (fun x hx => by
        rw [List.cons_append, List.mem_cons] at hx; exact hx) g6 g7
      refine ⟨t', s', th, Ev.bind hat0 ?_, Ev.bind (Ev.now _) ?_, k1, k2, k3, ?_, ?_, fun _ => hs'⟩
      · simp only [if_neg (show ¬ fndE a s 0 ≥ 0 by omega)]
        refine Ev.bind at' ?_
        simp only [if_neg (show ¬ fndE a t 0 ≥ 0 by omega), ahead_spec t _ _ (show t.length ≤ 1048576 by omega), Option.bind_some]
        exact Ev.bind g2 (Ev.now _)
      · simp only [takeE, if_neg (show ¬ 0 ≤ fndE a s 0 by omega), if_neg (show ¬ 0 ≤ fndE a t 0 by omega), Bool.false_eq_true, if_false, ahead_impl t _ _ (show t.length ≤ 1048576 by omega), Option.bind_some]
        refine Ev.bind g1 ?_
        simp only [hown t' s' k1, Option.bind_some]
        exact Ev.now _
      · rw [k4, if_neg nk]; simp only [List.cons_append, List.length_cons]
      · obtain ⟨q, hq⟩ := g9 [⟨a, b⟩] (by rw [hm]; exact ⟨t, rfl⟩) (one_fits he hn)
        rw [← hq]; simp
    · have hle := List.length_eraseIdx_le t i
      have hcp := cons_erase_perm t i hi
      obtain ⟨t', s', th, m, r, g1, g2, g3, g4, g5, g6, g7, g8, g9⟩ := fit_both n o hn0 ho0 (⟨a, b⟩ :: t.eraseIdx i) s (by simp only [List.length_cons]; omega)
      obtain ⟨hm, hs'⟩ := stay (t0 := t) g4 g8
      have hk : a.toList ∈ (t ++ s).map keyE := by rw [← ki]; exact List.mem_map_of_mem (List.mem_append_left _ (List.getElem_mem hi))
      obtain ⟨k1, k2, k3, k4⟩ := fin (⟨a, b⟩ :: t.eraseIdx i) s t' s' th m r g3 g4 g5 (by
        have h1 : ((⟨a, b⟩ :: t.eraseIdx i ++ s : List S45).map keyE) = ((t[i] :: t.eraseIdx i ++ s).map keyE) := by
          simp only [List.cons_append, List.map_cons]; rw [ki]; rfl
        rw [h1]; exact ((hcp.append_right s).map keyE).nodup_iff.2 hpre.2) (fun x hx => by
        rw [List.cons_append, List.mem_cons] at hx
        exact hx.imp id (fun h => (List.mem_append.1 h).elim (fun h => List.mem_append_left _ (List.mem_of_mem_eraseIdx h)) (List.mem_append_right _))) g6 g7
      refine ⟨t', s', th, Ev.bind hat0 ?_, Ev.bind (Ev.now _) ?_, k1, k2, k3, ?_, ?_, fun _ => hs'⟩
      · simp only [if_neg (show ¬ fndE a s 0 ≥ 0 by omega)]
        refine Ev.bind at' ?_
        simp only [f, if_pos (show (i : Int) ≥ 0 by omega), Without_eq t i hi (show t.length ≤ 1048576 by omega), Option.bind_some, ahead_spec (t.eraseIdx i) _ _ (show (t.eraseIdx i).length ≤ 1048576 by omega)]
        exact Ev.bind g2 (Ev.now _)
      · simp only [takeE, if_neg (show ¬ 0 ≤ fndE a s 0 by omega), f, if_pos (show 0 ≤ (i : Int) by omega), Int.toNat_natCast, Bool.false_eq_true, if_false, ahead_impl (t.eraseIdx i) _ _ (show (t.eraseIdx i).length ≤ 1048576 by omega), Option.bind_some]
        refine Ev.bind g1 ?_
        simp only [hown t' s' k1, Option.bind_some]
        exact Ev.now _
      · have := hcp.length_eq
        rw [k4, if_pos hk]; simp only [List.cons_append, List.length_cons, List.length_append] at this ⊢; omega
      · obtain ⟨q, hq⟩ := g9 [⟨a, b⟩] (by rw [hm]; exact ⟨_, rfl⟩) (one_fits he hn)
        rw [← hq]; simp
  · have hle := List.length_eraseIdx_le s j
    have hcp := cons_erase_perm s j hj
    obtain ⟨t', s', th, m, r, g1, g2, g3, g4, g5, g6, g7, g8, g9⟩ := fit_both n o hn0 ho0 t (⟨a, b⟩ :: s.eraseIdx j) (by simp only [List.length_cons]; omega)
    have hk : a.toList ∈ s.map keyE := by rw [← kj]; exact List.mem_map_of_mem (List.getElem_mem hj)
    have hk' : a.toList ∈ (t ++ s).map keyE := by rw [List.map_append]; exact List.mem_append_right _ hk
    obtain ⟨k1, k2, k3, k4⟩ := fin t (⟨a, b⟩ :: s.eraseIdx j) t' s' th m r g3 g4 g5 (by
      have h1 : ((t ++ ⟨a, b⟩ :: s.eraseIdx j : List S45).map keyE) = ((t ++ s[j] :: s.eraseIdx j).map keyE) := by
        simp only [List.map_append, List.map_cons]; rw [kj]; rfl
      rw [h1]; exact ((hcp.append_left t).map keyE).nodup_iff.2 hpre.2) (fun x hx => by
      rw [List.mem_append, List.mem_cons] at hx
      rcases hx with h | h | h
      · exact .inr (List.mem_append_left _ h)
      · exact .inl h
      · exact .inr (List.mem_append_right _ (List.mem_of_mem_eraseIdx h))) g6 g7
    refine ⟨t', s', th, Ev.bind hat0 ?_, Ev.bind (Ev.now _) ?_, k1, k2, k3, ?_, ?_, fun h => absurd hk h⟩
    · simp only [e, if_pos (show (j : Int) ≥ 0 by omega), Without_eq s j hj (show s.length ≤ 1048576 by omega), Option.bind_some, ahead_spec (s.eraseIdx j) _ _ (show (s.eraseIdx j).length ≤ 1048576 by omega)]
      exact Ev.bind g2 (Ev.now _)
    · simp only [takeE, e, if_pos (show 0 ≤ (j : Int) by omega), Int.toNat_natCast, if_true, ahead_impl (s.eraseIdx j) _ _ (show (s.eraseIdx j).length ≤ 1048576 by omega), Option.bind_some]
      refine Ev.bind g1 ?_
      simp only [hown t' s' k1, Option.bind_some]
      exact Ev.now _
    · have := hcp.length_eq
      rw [k4, if_pos hk']; simp only [List.length_cons, List.length_append] at this ⊢; omega
    · obtain ⟨q, hq⟩ := g8 [⟨a, b⟩] ⟨_, rfl⟩ (one_fits he ho)
      rw [← hq]; simp
theorem Good_now {n o : Int} {t s : List S45} (h : GoodP n o t s) : Ev (fun k => impl_GoodSegmented.f k n o t s) true := by
  have hpre := good_pre h
  have h1 := h.2.2.1.2.2.1
  have h2 := h.2.2.2.1.2.2.1
  obtain ⟨b', h3, h4⟩ := Good_impl n o t s (by omega) (by omega) (fun x hx => by have := of_decide_eq_true (hpre.1 x hx); omega)
  rw [h4.2 h] at h3
  exact h3

theorem Play_l (n o : Int) (l : List S45) (hl : l.length ≤ 200) (he : ∀ x ∈ l, entryB x = true) (P : List UInt8 → Prop) (hP : ∀ x ∈ l, P (keyE x)) (d : Nat) : ∀ (j : Nat) (t s : List S45) (told : List ByteArray), j + d = l.length → told.length ≤ j → GoodP n o t s → (∀ x ∈ t ++ s, P (keyE x)) →
    ∃ t' s' told', Ev (fun k => impl_PlaySegmented.l0 k told l (l.length : Int) (j : Int) n o t s) (n, o, t', s', told', true) ∧ Ev (fun k => spec_PlaySegmented.l0 k told l (l.length : Int) (j : Int) n o t s) (n, o, t', s', told', true) ∧ told'.length ≤ 200 ∧ GoodP n o t' s' ∧ (∀ x ∈ t' ++ s', P (keyE x)) := by
  induction d with
  | zero =>
    intro j t s told hj ht hg hp
    have h1 := hg.2.2.1.2.2.1
    have h2 := hg.2.2.2.1.2.2.1
    refine ⟨t, s, told, Ev.step (f := fun _ => some (n, o, t, s, told, true)) (fun k => ?_) (Ev.now _), Ev.step (f := fun _ => some (n, o, t, s, told, true)) (fun k => ?_) (Ev.now _), by omega, hg, hp⟩
    · simp only [impl_PlaySegmented.l0]; rw [if_neg (by omega), Own_impl n o t s (by omega) (by omega)]; rfl
    · simp only [spec_PlaySegmented.l0]; rw [if_neg (by omega), Own_spec n o t s (by omega) (by omega)]; rfl
  | succ d ih =>
    intro j t s told hj ht hg hp
    have hlt : j < l.length := by omega
    have hej := he _ (List.getElem_mem hlt)
    by_cases c : l[j].f1.toList = ([] : List UInt8)
    · have hi : ∀ k, impl_PlaySegmented.l0 (k + 1) told l (l.length : Int) (j : Int) n o t s = (impl_Segmented_get.f k n o t s l[j].f0).bind fun bt => if told.length < 8796093022208 then impl_PlaySegmented.l0 k (told ++ [bt.2.2.2.2.1]) l (l.length : Int) ((j + 1 : Nat) : Int) bt.1 bt.2.1 bt.2.2.1 bt.2.2.2.1 else none := fun k => by
        simp only [impl_PlaySegmented.l0]
        rw [if_pos (by omega), if_pos (by omega), if_pos (by omega), rd45j l j hlt, if_pos c, wj (n := l.length) hlt (by omega)]
      have hs : ∀ k, spec_PlaySegmented.l0 (k + 1) told l (l.length : Int) (j : Int) n o t s = (spec_l12Get.f k n o t s l[j].f0).bind fun bt => if told.length < 8796093022208 then spec_PlaySegmented.l0 k (told ++ [bt.2.2.2.2.1]) l (l.length : Int) ((j + 1 : Nat) : Int) bt.1 bt.2.1 bt.2.2.1 bt.2.2.2.1 else none := fun k => by
        simp only [spec_PlaySegmented.l0]
        rw [if_pos (by omega), if_pos (by omega), if_pos (by omega), rd45j l j hlt, spec_entry, hej, if_pos c, wj (n := l.length) hlt (by omega)]
        rfl
      obtain ⟨t1, s1, v, b, r, g1, g2, g3, g4, _⟩ := Get_both n o t s l[j].f0 hg
      obtain ⟨t', s', told', k1, k2, k3, k4, k5⟩ := ih (j + 1) t1 s1 (told ++ [v]) (by omega) (by simp; omega) g3 (fun x hx => hp x (g4.mem_iff.1 (List.mem_append_left _ hx)))
      refine ⟨t', s', told', Ev.step hi (Ev.bind g2 ?_), Ev.step hs (Ev.bind g1 ?_), k3, k4, k5⟩
      · simp only [if_pos (show told.length < 8796093022208 by omega)]; exact k1
      · simp only [if_pos (show told.length < 8796093022208 by omega)]; exact k2
    · have hi : ∀ k, impl_PlaySegmented.l0 (k + 1) told l (l.length : Int) (j : Int) n o t s = (impl_Segmented_put.f k n o t s l[j].f0 l[j].f1).bind fun bt => impl_PlaySegmented.l0 k told l (l.length : Int) ((j + 1 : Nat) : Int) bt.1 bt.2.1 bt.2.2.1 bt.2.2.2.1 := fun k => by
        simp only [impl_PlaySegmented.l0]
        rw [if_pos (by omega), if_pos (by omega), if_pos (by omega), rd45j l j hlt, if_neg c, wj (n := l.length) hlt (by omega)]
      have hs : ∀ k, spec_PlaySegmented.l0 (k + 1) told l (l.length : Int) (j : Int) n o t s = (spec_l12Put.f k n o t s l[j].f0 l[j].f1).bind fun bt => spec_PlaySegmented.l0 k told l (l.length : Int) ((j + 1 : Nat) : Int) bt.1 bt.2.1 bt.2.2.1 bt.2.2.2.1 := fun k => by
        simp only [spec_PlaySegmented.l0]
        rw [if_pos (by omega), if_pos (by omega), if_pos (by omega), rd45j l j hlt, spec_entry, hej, if_neg c, wj (n := l.length) hlt (by omega)]
        rfl
      obtain ⟨t1, s1, th, g1, g2, g3, _, g5, _⟩ := Put_both n o t s l[j].f0 l[j].f1 hg hej
      obtain ⟨t', s', told', k1, k2, k3, k4, k5⟩ := ih (j + 1) t1 s1 told (by omega) (by omega) g3 (fun x hx => by
        rcases g5 x (List.mem_append_left _ hx) with e | e
        · rw [e]; exact hP _ (List.getElem_mem hlt)
        · exact hp x e)
      exact ⟨t', s', told', Ev.step hi (Ev.bind g2 k1), Ev.step hs (Ev.bind g1 k2), k3, k4, k5⟩
theorem Play_bad (n o : Int) (l : List S45) (hl : l.length ≤ 200) (d : Nat) : ∀ (j : Nat) (t s : List S45) (told : List ByteArray), j + d = l.length → told.length ≤ j → GoodP n o t s → (∃ x ∈ l.drop j, entryB x ≠ true) →
    Ev (fun k => spec_PlaySegmented.l0 k told l (l.length : Int) (j : Int) n o t s) (0, 0, [], [], [], false) := by
  induction d with
  | zero =>
    rintro j t s told hj ht hg ⟨x, hx, _⟩
    rw [List.drop_of_length_le (by omega)] at hx
    cases hx
  | succ d ih =>
    rintro j t s told hj ht hg ⟨x, hx, hb⟩
    have hlt : j < l.length := by omega
    rw [List.drop_eq_getElem_cons hlt, List.mem_cons] at hx
    by_cases hej : entryB l[j] = true
    · have hx' : ∃ x ∈ l.drop (j + 1), entryB x ≠ true := by
        rcases hx with e | e
        · rw [e] at hb; exact absurd hej hb
        · exact ⟨x, e, hb⟩
      by_cases c : l[j].f1.toList = ([] : List UInt8)
      · obtain ⟨t1, s1, v, b, r, g1, g2, g3, g4, _⟩ := Get_both n o t s l[j].f0 hg
        have hs : ∀ k, spec_PlaySegmented.l0 (k + 1) told l (l.length : Int) (j : Int) n o t s = (spec_l12Get.f k n o t s l[j].f0).bind fun bt => if told.length < 8796093022208 then spec_PlaySegmented.l0 k (told ++ [bt.2.2.2.2.1]) l (l.length : Int) ((j + 1 : Nat) : Int) bt.1 bt.2.1 bt.2.2.1 bt.2.2.2.1 else none := fun k => by
          simp only [spec_PlaySegmented.l0]
          rw [if_pos (by omega), if_pos (by omega), if_pos (by omega), rd45j l j hlt, spec_entry, hej, if_pos c, wj (n := l.length) hlt (by omega)]
          rfl
        refine Ev.step hs (Ev.bind g1 ?_)
        simp only [if_pos (show told.length < 8796093022208 by omega)]
        exact ih (j + 1) t1 s1 (told ++ [v]) (by omega) (by simp; omega) g3 hx'
      · obtain ⟨t1, s1, th, g1, g2, g3, _⟩ := Put_both n o t s l[j].f0 l[j].f1 hg hej
        have hs : ∀ k, spec_PlaySegmented.l0 (k + 1) told l (l.length : Int) (j : Int) n o t s = (spec_l12Put.f k n o t s l[j].f0 l[j].f1).bind fun bt => spec_PlaySegmented.l0 k told l (l.length : Int) ((j + 1 : Nat) : Int) bt.1 bt.2.1 bt.2.2.1 bt.2.2.2.1 := fun k => by
          simp only [spec_PlaySegmented.l0]
          rw [if_pos (by omega), if_pos (by omega), if_pos (by omega), rd45j l j hlt, spec_entry, hej, if_neg c, wj (n := l.length) hlt (by omega)]
          rfl
        exact Ev.step hs (Ev.bind g1 (ih (j + 1) t1 s1 told (by omega) (by omega) g3 hx'))
    · refine Ev.step (f := fun _ => some (0, 0, [], [], [], false)) (fun k => ?_) (Ev.now _)
      simp only [spec_PlaySegmented.l0]
      rw [if_pos (by omega), if_pos (by omega), if_pos (by omega), rd45j l j hlt, spec_entry, Bool.eq_false_iff.2 hej]
      rfl
theorem impl_New (a b : Int) : impl_NewSegmented.f a b = some (if roomB a = true ∧ roomB b = true then (a, b, [], [], true) else (0, 0, [], [], false)) := by
  unfold impl_NewSegmented.f
  rw [impl_room, impl_room]
  simp only [Option.bind_some]
  by_cases c1 : roomB a = true
  · by_cases c2 : roomB b = true
    · rw [if_pos c1, if_pos c2, if_pos ⟨c1, c2⟩]
    · rw [if_pos c1, if_neg c2, if_neg (fun h => c2 h.2)]
  · rw [if_neg c1, if_neg (fun h => c1 h.1)]
theorem spec_New (a b : Int) : spec_NewSegmented.f a b = some (if roomB a = true ∧ roomB b = true then (a, b, [], [], true) else (0, 0, [], [], false)) := by
  unfold spec_NewSegmented.f
  rw [spec_room, spec_room]
  simp only [Option.bind_some]
  by_cases c1 : roomB a = true
  · by_cases c2 : roomB b = true
    · rw [if_pos c1, if_pos c2, if_pos ⟨c1, c2⟩]
    · rw [if_pos c1, if_neg c2, if_neg (fun h => c2 h.2)]
  · rw [if_neg c1, if_neg (fun h => c1 h.1)]
theorem Play_both (a b : Int) (l : List S45) (hl : l.length ≤ 1048576) (P : List UInt8 → Prop) (hP : ∀ x ∈ l, P (keyE x)) :
    ∃ n o t s told c, Ev (fun k => impl_PlaySegmented.f k a b l) (n, o, t, s, told, c) ∧ Ev (fun k => spec_PlaySegmented.f k a b l) (n, o, t, s, told, c) ∧ told.length ≤ 200 ∧ t.length ≤ 1000 ∧ s.length ≤ 1000 ∧
      ((c = true ∧ GoodP n o t s ∧ ∀ x ∈ t ++ s, P (keyE x)) ∨ (c = false ∧ told = [])) := by
  have noI : ∀ n o t s, Ev (fun k => impl_PlaySegmented.j0 k l true n o t s) (0, 0, [], [], [], false) := fun n o t s => Ev.step (f := fun _ => some (0, 0, [], [], [], false)) (fun k => by simp only [impl_PlaySegmented.j0]; rfl) (Ev.now _)
  have noS : ∀ n o t s, Ev (fun k => spec_PlaySegmented.j0 k l true n o t s) (0, 0, [], [], [], false) := fun n o t s => Ev.step (f := fun _ => some (0, 0, [], [], [], false)) (fun k => by simp only [spec_PlaySegmented.j0]; rfl) (Ev.now _)
  unfold impl_PlaySegmented.f spec_PlaySegmented.f
  rw [impl_New, spec_New]
  by_cases c : roomB a = true ∧ roomB b = true
  rotate_left
  · rw [if_neg c]
    exact ⟨0, 0, [], [], [], false, noI _ _ _ _, noS _ _ _ _, by simp, by simp, by simp, .inr ⟨rfl, rfl⟩⟩
  rw [if_pos c]
  obtain ⟨c1, c2⟩ := c
  have ha : 0 ≤ a := by have := of_decide_eq_true c1; omega
  have hb : 0 ≤ b := by have := of_decide_eq_true c2; omega
  have hg : GoodP a b [] [] := pre_good c1 c2 ⟨by simp, by simp⟩ ⟨by simp, ha⟩ ⟨by simp, hb⟩
  by_cases c3 : (l.length : Int) > 200
  · refine ⟨0, 0, [], [], [], false, Ev.congr (fun k => ?_) (noI a b [] []), Ev.congr (fun k => ?_) (noS a b [] []), by simp, by simp, by simp, .inr ⟨rfl, rfl⟩⟩
    · simp only [Option.bind_some, if_true, if_pos c3]
    · simp only [Option.bind_some, if_true, decide_eq_true c3]
  obtain ⟨e, e1, e2⟩ := allE_iff l
  have e1' : impl_Entry__51.f l = some e := e1
  have hS : ∀ k, ((some (a, b, ([] : List S45), ([] : List S45), true)).bind fun bt453 => (if bt453.2.2.2.2 = true then (spec_PlaySegmented.j0 k l (decide ((l.length : Int) > 200)) bt453.1 bt453.2.1 bt453.2.2.1 bt453.2.2.2.1) else (spec_PlaySegmented.j0 k l true bt453.1 bt453.2.1 bt453.2.2.1 bt453.2.2.2.1))) = spec_PlaySegmented.j0 k l false a b [] [] := fun k => by
    simp only [Option.bind_some, if_true, decide_eq_false c3]
  have hI : ∀ k, ((some (a, b, ([] : List S45), ([] : List S45), true)).bind fun bt218 => (if bt218.2.2.2.2 = true then (if (l.length : Int) > 200 then (impl_PlaySegmented.j0 k l true bt218.1 bt218.2.1 bt218.2.2.1 bt218.2.2.2.1) else ((impl_Entry__51.f l).bind fun t228 => (impl_PlaySegmented.j0 k l (!t228) bt218.1 bt218.2.1 bt218.2.2.1 bt218.2.2.2.1))) else (impl_PlaySegmented.j0 k l true bt218.1 bt218.2.1 bt218.2.2.1 bt218.2.2.2.1))) = impl_PlaySegmented.j0 k l (!e) a b [] [] := fun k => by
    simp only [Option.bind_some, if_true, if_neg c3, e1']
  by_cases ce : e = true
  · subst ce
    obtain ⟨t', s', told', k1, k2, k3, k4, k5⟩ := Play_l a b l (by omega) (e2.1 rfl) P hP l.length 0 [] [] [] (by omega) (by simp) hg (by simp)
    have h1 := k4.2.2.1.2.2.1
    have h2 := k4.2.2.2.1.2.2.1
    refine ⟨a, b, t', s', told', true, Ev.congr hI (Ev.step (fun k => ?_) k1), Ev.congr hS (Ev.step (fun k => ?_) k2), k3, by omega, by omega, .inl ⟨rfl, k4, k5⟩⟩
    · simp only [impl_PlaySegmented.j0]; rfl
    · simp only [spec_PlaySegmented.j0]; rfl
  · have ce' : e = false := Bool.eq_false_iff.2 ce
    subst ce'
    have hbad : ∃ x ∈ l.drop 0, entryB x ≠ true := by
      rw [List.drop_zero]
      exact Classical.byContradiction fun h => ce (e2.2 fun x hx => Classical.byContradiction fun hb => h ⟨x, hx, hb⟩)
    have k2 := Play_bad a b l (by omega) l.length 0 [] [] [] (by omega) (by simp) hg hbad
    refine ⟨0, 0, [], [], [], false, Ev.congr hI (noI _ _ _ _), Ev.congr hS (Ev.step (fun k => ?_) k2), by simp, by simp, by simp, .inr ⟨rfl, rfl⟩⟩
    simp only [spec_PlaySegmented.j0]; rfl

def Kok (k : List UInt8) : Prop := k ∉ ([[110, 49], [110, 50], [110, 51], [110, 52], [110, 53], [110, 54]] : List (List UInt8))
theorem of_ok {l : List Int} (hl : Byt l) (a s : Int) (x : List ByteArray) (hx : 1 < x.length) (h0 : 0 ≤ a) (h1 : a ≤ 4611686018427387900) :
    ∃ r a' s', spec_l1Cur_of.f l a s x = some (r, a', s') ∧ r ∈ x ∧ a ≤ a' ∧ a' ≤ a + 2 := by
  unfold spec_l1Cur_of.f
  obtain ⟨r, a', s', e, g0, g1, g⟩ := pick_ok hl a s (x.length : Int) h0 h1
  have hr : r.toNat < x.length := by omega
  rw [e]
  simp only [Option.bind_some]
  rw [if_pos g0, if_pos (by omega)]
  refine ⟨_, _, _, rfl, ?_, g⟩
  have : rdOf ByteArray.empty x r = x[r.toNat] := getD_at hr _
  rw [this]
  exact List.getElem_mem hr
theorem entry_ok {l : List Int} (hl : Byt l) (a s : Int) (h0 : 0 ≤ a) (h1 : a ≤ 4611686018427380000) :
    ∃ key val a' s', Ev (fun k => spec_l1Cur_entry.f k l a s) (key, val, a', s') ∧ Kok key.toList ∧ a ≤ a' ∧ a' ≤ a + 20 := by
  have go : ∀ (key val : ByteArray) (a s : Int), 0 ≤ a → a ≤ 4611686018427387000 → Kok key.toList → ∃ key' val' a' s', Ev (fun k => spec_l1Cur_entry.j0 k l a s key val) (key', val', a', s') ∧ Kok key'.toList ∧ a ≤ a' ∧ a' ≤ a + 6 := by
    intro key val a s h0 h1 hk
    obtain ⟨r, a1, s1, e1, p1, q1, u1, v1⟩ := pick_ok hl a s 60 h0 (by omega)
    by_cases c0 : r = 0
    · obtain ⟨t, a2, s2, e2, m2, u2, v2⟩ := of_ok hl a1 s1 (([(⟨#[]⟩ : ByteArray), (⟨#[49, 50, 51, 52, 53, 54, 55, 56, 57, 48, 49, 50, 51, 52, 53, 54, 55, 56, 57, 48, 49]⟩ : ByteArray)] : List ByteArray)) (by simp) (by omega) (by omega)
      refine ⟨t, val, a2, s2, Ev.step (f := fun _ => some (t, val, a2, s2)) (fun k => ?_) (Ev.now _), ?_, by omega, by omega⟩
      · simp only [spec_l1Cur_entry.j0]
        rw [e1]; simp only [Option.bind_some]; rw [if_pos c0, e2]; rfl
      · simp only [List.mem_cons, List.not_mem_nil, or_false] at m2
        rcases m2 with rfl | rfl <;> (rw [ByteArray.toList_eq]; unfold Kok; decide)
    · by_cases c1 : r = 1
      · obtain ⟨r2, a2, s2, e2, p2, q2, u2, v2⟩ := pick_ok hl a1 s1 2 (by omega) (by omega)
        have ew : wrap64 (60 + r2) = 60 + r2 := w64 (by omega) (by omega)
        refine ⟨key, strOfNums (List.replicate (60 + r2 : Int).toNat 0), a2, s2, Ev.step (f := fun _ => some (key, strOfNums (List.replicate (60 + r2 : Int).toNat 0), a2, s2)) (fun k => ?_) (Ev.now _), hk, by omega, by omega⟩
        simp only [spec_l1Cur_entry.j0]
        rw [e1]; simp only [Option.bind_some]; rw [if_neg c0, if_pos c1, e2]; simp only [Option.bind_some, ew]
        rw [if_pos (by omega), if_pos (by omega)]
      · refine ⟨key, val, a1, s1, Ev.step (f := fun _ => some (key, val, a1, s1)) (fun k => ?_) (Ev.now _), hk, by omega, by omega⟩
        simp only [spec_l1Cur_entry.j0]
        rw [e1]; simp only [Option.bind_some]; rw [if_neg c0, if_neg c1]
  unfold spec_l1Cur_entry.f
  obtain ⟨key, a1, s1, e1, m1, u1, v1⟩ := of_ok hl a s (([(⟨#[97]⟩ : ByteArray), (⟨#[98]⟩ : ByteArray), (⟨#[99]⟩ : ByteArray), (⟨#[100]⟩ : ByteArray), (⟨#[101]⟩ : ByteArray), (⟨#[102]⟩ : ByteArray), (⟨#[103]⟩ : ByteArray)] : List ByteArray)) (by simp) (by omega) (by omega)
  have hk : Kok key.toList := by
    simp only [List.mem_cons, List.not_mem_nil, or_false] at m1
    rcases m1 with rfl | rfl | rfl | rfl | rfl | rfl | rfl <;> (rw [ByteArray.toList_eq]; unfold Kok; decide)
  obtain ⟨r2, a2, s2, e2, p2, q2, u2, v2⟩ := pick_ok hl a1 s1 60 (by omega) (by omega)
  obtain ⟨b, a3, s3, e3, u3, v3⟩ := one_ok hl a2 s2 3 (by omega) (by omega)
  have ew : wrap64 (1 + r2) = 1 + r2 := w64 (by omega) (by omega)
  simp only [e1, e2, e3, Option.bind_some, ew, if_pos (show 0 ≤ 1 + r2 by omega), if_pos (show (1 + r2).toNat ≤ 281474976710656 by omega)]
  by_cases cb : b = true
  · obtain ⟨v, a4, s4, e4, _, u4, v4⟩ := of_ok hl a3 s3 (([(⟨#[118]⟩ : ByteArray), (⟨#[119]⟩ : ByteArray), (⟨#[108, 111, 110, 103, 32, 118, 97, 108, 117, 101]⟩ : ByteArray)] : List ByteArray)) (by simp) (by omega) (by omega)
    obtain ⟨key', val', a', s', g, gk, g1, g2⟩ := go key v a4 s4 (by omega) (by omega) hk
    refine ⟨key', val', a', s', Ev.congr (fun k => ?_) g, gk, by omega, by omega⟩
    rw [if_pos cb, e4]; rfl
  · obtain ⟨key', val', a', s', g, gk, g1, g2⟩ := go key (strOfNums (List.replicate (1 + r2 : Int).toNat 0)) a3 s3 (by omega) (by omega) hk
    refine ⟨key', val', a', s', Ev.congr (fun k => ?_) g, gk, by omega, by omega⟩
    rw [if_neg cb]
theorem entries_l {l : List Int} (hl : Byt l) (d : Nat) : ∀ (x : List S45) (a s : Int), x.length + d ≤ 300 → 0 ≤ a → a ≤ 1000 + 40 * x.length → (∀ e ∈ x, Kok (keyE e)) →
    ∃ r a' s', Ev (fun k => spec_l1Cur_entries.l0 k x (d : Int) l a s) (r, a', s') ∧ r.length ≤ 300 ∧ 0 ≤ a' ∧ a' ≤ 20000 ∧ ∀ e ∈ r, Kok (keyE e) := by
  induction d with
  | zero =>
    intro x a s hx h0 h1 hk
    refine ⟨x, a, s, Ev.step (f := fun _ => some (x, a, s)) (fun k => ?_) (Ev.now _), by omega, by omega, by omega, hk⟩
    simp only [spec_l1Cur_entries.l0]; rw [if_neg (by omega)]
  | succ d ih =>
    intro x a s hx h0 h1 hk
    have ew : wrap64 (((d + 1 : Nat) : Int) - 1) = (d : Int) := by rw [w64 (by omega) (by omega)]; omega
    obtain ⟨key, val, a1, s1, g, gk, u1, v1⟩ := entry_ok hl a s h0 (by omega)
    obtain ⟨b, a2, s2, e2, u2, v2⟩ := one_ok hl a1 s1 2 (by omega) (by omega)
    have hstep : ∀ k, spec_l1Cur_entries.l0 (k + 1) x ((d + 1 : Nat) : Int) l a s = (spec_l1Cur_entry.f k l a s).bind fun bt162 => ((spec_l1Cur_one.f l bt162.2.2.1 bt162.2.2.2 2).bind fun bt167 => (if bt167.1 = true then (if x.length < 4398046511104 then (spec_l1Cur_entries.l0 k (x ++ [(⟨bt162.1, (⟨#[]⟩ : ByteArray)⟩ : S45)]) (d : Int) l bt167.2.1 bt167.2.2) else (none)) else (if x.length < 4398046511104 then (spec_l1Cur_entries.l0 k (x ++ [(⟨bt162.1, bt162.2.1⟩ : S45)]) (d : Int) l bt167.2.1 bt167.2.2) else (none)))) := fun k => by
      simp only [spec_l1Cur_entries.l0]; rw [if_pos (by omega), ew]
    have hk' : ∀ v : ByteArray, ∀ e ∈ x ++ [(⟨key, v⟩ : S45)], Kok (keyE e) := fun v e he => by
      rw [List.mem_append, List.mem_singleton] at he
      rcases he with h | h
      · exact hk e h
      · rw [h]; exact gk
    have el : ∀ y : S45, ((x ++ [y]).length : Int) = x.length + 1 := fun y => by simp
    by_cases cb : b = true
    · obtain ⟨r, a', s', k1, k2⟩ := ih (x ++ [⟨key, ⟨#[]⟩⟩]) a2 s2 (by simp; omega) (by omega) (by rw [el]; omega) (hk' _)
      refine ⟨r, a', s', Ev.step hstep (Ev.bind g ?_), k2⟩
      simp only [e2, Option.bind_some, if_pos cb, if_pos (show x.length < 4398046511104 by omega)]
      exact k1
    · obtain ⟨r, a', s', k1, k2⟩ := ih (x ++ [⟨key, val⟩]) a2 s2 (by simp; omega) (by omega) (by rw [el]; omega) (hk' _)
      refine ⟨r, a', s', Ev.step hstep (Ev.bind g ?_), k2⟩
      simp only [e2, Option.bind_some, if_neg cb, if_pos (show x.length < 4398046511104 by omega)]
      exact k1
theorem entries_ok {l : List Int} (hl : Byt l) (a s : Int) (h0 : 0 ≤ a) (h1 : a ≤ 900) :
    ∃ r a' s', Ev (fun k => spec_l1Cur_entries.f k l a s) (r, a', s') ∧ r.length ≤ 300 ∧ 0 ≤ a' ∧ a' ≤ 20000 ∧ ∀ e ∈ r, Kok (keyE e) := by
  unfold spec_l1Cur_entries.f
  obtain ⟨r1, a1, s1, e1, p1, q1, u1, v1⟩ := pick_ok hl a s 24 h0 (by omega)
  obtain ⟨b, a2, s2, e2, u2, v2⟩ := one_ok hl a1 s1 30 (by omega) (by omega)
  simp only [e1, e2, Option.bind_some]
  have go : ∀ (n : Nat) (a s : Int), n ≤ 300 → 0 ≤ a → a ≤ 990 → ∃ r a' s', Ev (fun k => spec_l1Cur_entries.j0 k [] (n : Int) l a s) (r, a', s') ∧ r.length ≤ 300 ∧ 0 ≤ a' ∧ a' ≤ 20000 ∧ ∀ e ∈ r, Kok (keyE e) := by
    intro n a s hn h0 h1
    obtain ⟨r, a', s', g, g2⟩ := entries_l hl n [] a s (by simpa using hn) h0 (by simp; omega) (by simp)
    exact ⟨r, a', s', Ev.step (fun k => by simp only [spec_l1Cur_entries.j0]) g, g2⟩
  by_cases cb : b = true
  · obtain ⟨r3, a3, s3, e3, p3, q3, u3, v3⟩ := pick_ok hl a2 s2 3 (by omega) (by omega)
    obtain ⟨r, a', s', g, g2⟩ := go (199 + r3).toNat a3 s3 (by omega) (by omega) (by omega)
    refine ⟨r, a', s', Ev.congr (fun k => ?_) g, g2⟩
    rw [if_pos cb, e3]
    simp only [Option.bind_some]
    rw [w64 (by omega) (by omega), show (((199 + r3).toNat : Nat) : Int) = 199 + r3 from by omega]
  · obtain ⟨r, a', s', g, g2⟩ := go r1.toNat a2 s2 (by omega) (by omega) (by omega)
    refine ⟨r, a', s', Ev.congr (fun k => ?_) g, g2⟩
    rw [if_neg cb, show ((r1.toNat : Nat) : Int) = r1 from by omega]

theorem drawPlay_ok {l : List Int} (hl : Byt l) : ∃ a b r, Ev (fun k => spec_DrawPlaySegmented.f k l) (a, b, r) ∧ r.length ≤ 300 ∧ ∀ e ∈ r, Kok (keyE e) := by
  unfold spec_DrawPlaySegmented.f
  obtain ⟨r1, a1, s1, e1, p1, q1, u1, v1⟩ := pick_ok hl 0 0 200 (by omega) (by omega)
  obtain ⟨r2, a2, s2, e2, p2, q2, u2, v2⟩ := pick_ok hl a1 s1 200 (by omega) (by omega)
  obtain ⟨r, a', s', g, g2, _, _, g3⟩ := entries_ok hl a2 s2 (by omega) (by omega)
  simp only [e1, e2, Option.bind_some]
  exact ⟨_, _, r, Ev.bind g (Ev.now _), g2, g3⟩
theorem sameEntries_l (l : List S45) (hn : l.length ≤ 1048576) (d : Nat) : ∀ (j : Nat), j + d = l.length → Ev (fun k => laws_sameEntries.l0 k l l (l.length : Int) (j : Int)) true := by
  induction d with
  | zero =>
    intro j hj
    refine Ev.step (f := fun _ => some true) (fun k => ?_) (Ev.now _)
    simp only [laws_sameEntries.l0]; rw [if_neg (by omega)]
  | succ d ih =>
    intro j hj
    refine Ev.step (fun k => ?_) (ih (j + 1) (by omega))
    simp only [laws_sameEntries.l0]
    rw [if_pos (by omega), if_pos (by omega), if_pos (by omega), if_pos (by omega), if_neg (by simp), wj (n := l.length) (by omega) (by omega)]
theorem sameEntries_ev (l : List S45) (hn : l.length ≤ 1048576) : Ev (fun k => laws_sameEntries.f k l l) true := by
  refine Ev.congr (fun k => ?_) (sameEntries_l l hn l.length 0 (by omega))
  simp only [laws_sameEntries.f]; rw [if_pos trivial]; rfl
theorem sameTexts_l (l : List ByteArray) (hn : l.length ≤ 1048576) (d : Nat) : ∀ (j : Nat), j + d = l.length → Ev (fun k => laws_sameTexts.l0 k l l (l.length : Int) (j : Int)) true := by
  induction d with
  | zero =>
    intro j hj
    refine Ev.step (f := fun _ => some true) (fun k => ?_) (Ev.now _)
    simp only [laws_sameTexts.l0]; rw [if_neg (by omega)]
  | succ d ih =>
    intro j hj
    refine Ev.step (fun k => ?_) (ih (j + 1) (by omega))
    simp only [laws_sameTexts.l0]
    rw [if_pos (by omega), if_pos (by omega), if_pos (by omega), if_pos (by omega), if_pos trivial, wj (n := l.length) (by omega) (by omega)]
theorem sameTexts_ev (l : List ByteArray) (hn : l.length ≤ 1048576) : Ev (fun k => laws_sameTexts.f k l l) true := by
  refine Ev.congr (fun k => ?_) (sameTexts_l l hn l.length 0 (by omega))
  simp only [laws_sameTexts.f]; rw [if_pos trivial]; rfl
theorem sameCaches_ev (n o : Int) (t s : List S45) (ht : t.length ≤ 1048576) (hs : s.length ≤ 1048576) : Ev (fun k => laws_sameCaches.f k n o t s n o t s) true := by
  unfold laws_sameCaches.f
  simp only [if_true]
  refine Ev.bind (sameEntries_ev t ht) ?_
  simp only [if_true]
  exact Ev.bind (sameEntries_ev s hs) (Ev.now _)
theorem PutEntry_now {n o : Int} {t s : List S45} (a b : ByteArray) (hg : GoodP n o t s) (he : entryB ⟨a, b⟩ = true) (hk : a.toList ∉ s.map keyE) : ∃ t' th, Ev (fun k => impl_PutEntry.f k n o t s a b) (n, o, t', s, th, true) ∧ GoodP n o t' s := by
  obtain ⟨t', s', th, _, g2, g3, _, _, _, _, g8⟩ := Put_both n o t s a b hg he
  have e := g8 hk
  subst e
  refine ⟨t', th, ?_, g3⟩
  unfold impl_PutEntry.f
  refine Ev.bind (Good_now hg) ?_
  have e2 : impl_isEntry.f a b = some true := (impl_entry ⟨a, b⟩).trans (congrArg some he)
  simp only [if_true, e2, Option.bind_some]
  exact Ev.bind g2 (Ev.now _)
def newKeys : List ByteArray := [(⟨#[110, 49]⟩ : ByteArray), (⟨#[110, 50]⟩ : ByteArray), (⟨#[110, 51]⟩ : ByteArray), (⟨#[110, 52]⟩ : ByteArray), (⟨#[110, 53]⟩ : ByteArray), (⟨#[110, 54]⟩ : ByteArray)]
def newVal : ByteArray := ⟨#[97, 32, 118, 97, 108, 117, 101, 32, 111, 102, 32, 115, 111, 109, 101, 32, 98, 121, 116, 101, 115, 44, 32, 116, 111, 32, 102, 105, 108, 108, 32, 119, 104, 97, 116, 32, 105, 115, 32, 111, 110, 32, 116, 114, 105, 97, 108]⟩
theorem new_entry : ∀ x ∈ newKeys, entryB ⟨x, newVal⟩ = true ∧ x.toList ∈ ([[110, 49], [110, 50], [110, 51], [110, 52], [110, 53], [110, 54]] : List (List UInt8)) := by
  intro x hx
  simp only [newKeys, List.mem_cons, List.not_mem_nil, or_false] at hx
  rcases hx with rfl | rfl | rfl | rfl | rfl | rfl <;> (rw [ByteArray.toList_eq]; exact ⟨by rfl, by decide⟩)
theorem Scan_l {n o : Int} {t0 s : List S45} (hg0 : GoodP n o t0 s) (hk : ∀ x ∈ s, Kok (keyE x)) (d : Nat) : ∀ (j : Nat) (t : List S45), j + d = 6 → GoodP n o t s → Ev (fun k => laws_FnScanned.l0 k newKeys 6 (j : Int) n o t0 s n o t s) true := by
  induction d with
  | zero =>
    intro j t hj hg
    have h2 := hg.2.2.2.1.2.2.1
    have h : ∀ k, laws_FnScanned.l0 (k + 1) newKeys 6 (j : Int) n o t0 s n o t s = (impl_GoodSegmented.f k n o t0 s).bind fun t575 => (if t575 = true then ((laws_sameEntries.f k s s).bind fun t576 => (some t576)) else (none)) := fun k => by
      simp only [laws_FnScanned.l0]; rw [if_neg (by omega)]
    refine Ev.step h (Ev.bind (Good_now hg0) ?_)
    simp only [if_true]
    exact Ev.bind (sameEntries_ev s (by omega)) (Ev.now _)
  | succ d ih =>
    intro j t hj hg
    have hlt : j < newKeys.length := by simp only [newKeys, List.length_cons, List.length_nil]; omega
    have hl : newKeys.length = 6 := rfl
    have er : rdOf ByteArray.empty newKeys (j : Int) = newKeys[j] := getD_at hlt _
    obtain ⟨h1, h2⟩ := new_entry _ (List.getElem_mem hlt)
    obtain ⟨t', th, g1, g2⟩ := PutEntry_now newKeys[j] newVal hg h1 (fun hm => by
      obtain ⟨x, hx, e⟩ := List.mem_map.1 hm
      exact hk x hx (by rw [e]; exact h2))
    have h : ∀ k, laws_FnScanned.l0 (k + 1) newKeys 6 (j : Int) n o t0 s n o t s = (impl_PutEntry.f k n o t s newKeys[j] newVal).bind fun bt562 => (if bt562.2.2.2.2.2 = true then (laws_FnScanned.l0 k newKeys 6 ((j + 1 : Nat) : Int) n o t0 s bt562.1 bt562.2.1 bt562.2.2.1 bt562.2.2.2.1) else (none)) := fun k => by
      simp only [laws_FnScanned.l0]; rw [if_pos (by omega), if_pos (by omega), if_pos (by omega), er, wj (n := 6) (by omega) (by omega)]
      rfl
    refine Ev.step h (Ev.bind g1 ?_)
    simp only [if_true]
    exact ih (j + 1) t' (by omega) g2
theorem FnScanned : laws_FnScanned.Pure := by
  intro l _ _ hw
  have hl := byt_of hw
  refine Ev.law ?_
  unfold laws_FnScanned.f
  by_cases c : (l.length : Int) > 1048576
  · exact Ev.congr (fun k => by rw [if_pos c]) (Ev.now _)
  simp only [if_neg c]
  obtain ⟨a, b, r, g1, g2, g3⟩ := drawPlay_ok hl
  obtain ⟨n, o, t, s, told, ok, p1, p2, p3, p4, p5, p6⟩ := Play_both a b r (by omega) Kok g3
  refine Ev.bind g1 (Ev.bind p1 (Ev.bind p2 ?_))
  simp only [bne_self_eq_false, Bool.false_eq_true, if_false]
  refine Ev.bind (sameCaches_ev n o t s (by omega) (by omega)) ?_
  simp only [if_true]
  refine Ev.bind (sameTexts_ev told (by omega)) ?_
  rcases p6 with ⟨rfl, hg, hk⟩ | ⟨rfl, rfl⟩
  · refine Ev.step (fun k => ?_) (Scan_l hg (fun x hx => hk x (List.mem_append_right _ hx)) 6 0 t rfl hg)
    simp only [laws_FnScanned.j0]
    rfl
  · refine Ev.step (f := fun _ => some true) (fun k => ?_) (Ev.now _)
    simp only [laws_FnScanned.j0]
    rfl

end Go.Proofs.Ytfopmaiednikhaa.Pure
