/- The pure part of the law of parts: what is put is got, both parts keep within their room, what was thrown away is gone. -/
import Derived.Test.YtfopmaiednikhaaPFnPartsx14
import Derived.Lib.RabinKarpLaws
namespace Go.Proofs.Ytfopmaiednikhaa.Pure
open Go.RowKit Go.Proofs.Ytfopmaiednikhaa.PFnParts Go.Proofs.YtfopmaiednikhaaW.PrintWords Go.Proofs.YtfopmaiednikhaaW.PrintLast Go.Proofs.YtfopmaiednikhaaW.PrintMore Go.Proofs.YtfopmaiednikhaaOwn
set_option linter.unusedVariables false
set_option linter.unusedSimpArgs false

theorem wj {j n : Nat} (h : j < n) (hn : n ≤ 4611686018427387904) : wrap64 ((j : Int) + 1) = ((j + 1 : Nat) : Int) := by
  unfold wrap64; omega
theorem w64 {x : Int} (h0 : -9223372036854775808 ≤ x) (h1 : x ≤ 9223372036854775807) : wrap64 x = x := by
  unfold wrap64; omega
theorem rdj (l : List Int) (j : Nat) : rd l (j : Int) = l.getD j 0 := rfl
theorem getD_at {α : Type} {l : List α} {j : Nat} (h : j < l.length) (z : α) : l.getD j z = l[j] := by
  rw [List.getD_eq_getElem?_getD, List.getElem?_eq_getElem h]; rfl
/-- Bytes. -/
def Byt (l : List Int) : Prop := ∀ x ∈ l, 0 ≤ x ∧ x ≤ 255
theorem byt_of {l : List Int} (h : ∀ x ∈ l, (Lit.int .u8 x).wf = true) : Byt l := by
  intro x hx
  have := h x hx
  simp only [Lit.wf, IntKind.min, IntKind.max, IntKind.signed, IntKind.bits, Bool.and_eq_true, decide_eq_true_eq] at this
  simp at this; omega
theorem byt_rd {l : List Int} (hl : Byt l) (j : Nat) (hj : j < l.length) : 0 ≤ rd l (j : Int) ∧ rd l (j : Int) ≤ 255 := by
  rw [rdj, getD_at hj]; exact hl _ (List.getElem_mem hj)
theorem and255 (x : Int) : 0 ≤ Go.bits .and .u64 x 255 ∧ Go.bits .and .u64 x 255 ≤ 255 := by
  have e : ∀ z : Nat, z ≤ 255 → IntKind.u64.wrap (z : Int) = (z : Int) := by
    intro z hz; simp only [IntKind.wrap, IntKind.bits, IntKind.signed]; simp; omega
  have hz : ∀ y : Nat, y &&& 255 ≤ 255 := fun y => Nat.and_le_right
  have : ∃ z : Nat, z ≤ 255 ∧ Go.bits .and .u64 x 255 = (z : Int) := by
    refine ⟨_, hz (x % 18446744073709551616).toNat, ?_⟩
    rw [← e _ (hz _)]
    simp only [Go.bits, IntKind.bits]
    rfl
  obtain ⟨z, h1, h2⟩ := this
  rw [h2]; omega
theorem next_ok {l : List Int} (hl : Byt l) (a s : Int) (h0 : 0 ≤ a) (h1 : a ≤ 4611686018427387904) :
    ∃ r s', spec_l1Cur_next.f l a s = some (r, a + 1, s') ∧ 0 ≤ r ∧ r ≤ 255 := by
  unfold spec_l1Cur_next.f
  have e1 : wrap64 (a + 1) = a + 1 := w64 (by omega) (by omega)
  by_cases c : a < (l.length : Int)
  · have hb := byt_rd hl a.toNat (by omega)
    rw [show ((a.toNat : Nat) : Int) = a from by omega] at hb
    rw [if_pos c, if_pos h0, e1, if_pos (by omega), w64 (x := rd l a) (by omega) (by omega)]
    exact ⟨_, _, rfl, hb.1, hb.2⟩
  · rw [if_neg c, e1, if_neg (by omega)]
    refine ⟨_, _, rfl, ?_⟩
    have hb := and255 (IntKind.u64.wrap (IntKind.u64.wrap (IntKind.u64.wrap (s * 6364136223846793005)) + 1442695040888963407) / 1099511627776)
    rw [w64 (by omega) (by omega)]
    exact hb
theorem pick_ok {l : List Int} (hl : Byt l) (a s n : Int) (h0 : 0 ≤ a) (h1 : a ≤ 4611686018427387900) :
    ∃ r a' s', spec_l1Cur_pick.f l a s n = some (r, a', s') ∧ 0 ≤ r ∧ (r < n ∨ n ≤ 1 ∧ r = 0) ∧ a ≤ a' ∧ a' ≤ a + 2 := by
  unfold spec_l1Cur_pick.f
  by_cases c : n ≤ 1
  · rw [if_pos c]; exact ⟨_, _, _, rfl, by omega, .inr ⟨c, rfl⟩, by omega, by omega⟩
  · obtain ⟨r, s1, e1, g0, g1⟩ := next_ok hl a s h0 (by omega)
    rw [if_neg c, e1]
    simp only [Option.bind_some]
    by_cases c2 : n > 200
    · obtain ⟨r2, s2, e2, k0, k1⟩ := next_ok hl (a + 1) s1 (by omega) (by omega)
      rw [if_pos c2, e2]
      simp only [Option.bind_some]
      rw [if_neg (by omega), w64 (x := r * 256) (by omega) (by omega), w64 (by omega) (by omega)]
      exact ⟨_, _, _, rfl, Int.tmod_nonneg _ (by omega), .inl (Int.tmod_lt_of_pos _ (by omega)), by omega, by omega⟩
    · rw [if_neg c2, if_neg (by omega)]
      exact ⟨_, _, _, rfl, Int.tmod_nonneg _ (by omega), .inl (Int.tmod_lt_of_pos _ (by omega)), by omega, by omega⟩
theorem one_ok {l : List Int} (hl : Byt l) (a s n : Int) (h0 : 0 ≤ a) (h1 : a ≤ 4611686018427387900) :
    ∃ b a' s', spec_l1Cur_one.f l a s n = some (b, a', s') ∧ a ≤ a' ∧ a' ≤ a + 2 := by
  unfold spec_l1Cur_one.f
  obtain ⟨r, a', s', e, _, _, g⟩ := pick_ok hl a s n h0 h1
  rw [e]; exact ⟨_, _, _, rfl, g⟩
theorem among_ok {l : List Int} (hl : Byt l) (a s : Int) (x : List Int) (hx : 1 < x.length) (h0 : 0 ≤ a) (h1 : a ≤ 4611686018427387900) :
    ∃ r a' s', spec_l1Cur_among.f l a s x = some (r, a', s') ∧ r ∈ x ∧ a ≤ a' ∧ a' ≤ a + 2 := by
  unfold spec_l1Cur_among.f
  obtain ⟨r, a', s', e, g0, g1, g⟩ := pick_ok hl a s (x.length : Int) h0 h1
  have hr : r.toNat < x.length := by omega
  rw [e]
  simp only [Option.bind_some]
  rw [if_pos g0, if_pos (by omega)]
  refine ⟨_, _, _, rfl, ?_, g⟩
  rw [show r = ((r.toNat : Nat) : Int) from by omega, rdj, getD_at hr]
  exact List.getElem_mem hr

theorem rd45j (l : List S45) (j : Nat) (h : j < l.length) : rd_T45 l (j : Int) = l[j] := by
  show l.getD j z45 = _
  exact getD_at h _
def keyE (x : S45) : List UInt8 := x.f0.toList
def entryB (x : S45) : Bool := decide ((1 : Int) ≤ (x.f0.size : Int) ∧ (x.f0.size : Int) ≤ 20 ∧ (x.f1.size : Int) ≤ 60)
theorem spec_entry (x : S45) : spec_l12Entry.f x.f0 x.f1 = some (entryB x) := by
  have e : spec_l12Entry.f x.f0 x.f1 = if (x.f0.size : Int) ≥ 1 then (if decide ((x.f0.size : Int) ≤ 20) = true then some (decide ((x.f1.size : Int) ≤ 60)) else some false) else some false := by
    unfold spec_l12Entry.f spec_l1In.f
    split <;> rfl
  rw [e]; unfold entryB
  by_cases h1 : (x.f0.size : Int) ≥ 1
  · by_cases h2 : (x.f0.size : Int) ≤ 20
    · rw [if_pos h1, if_pos (decide_eq_true h2)]; exact congrArg some (decide_eq_decide.2 ⟨fun h => ⟨h1, h2, h⟩, fun h => h.2.2⟩)
    · rw [if_pos h1, if_neg (by simpa using h2), decide_eq_false (fun h => h2 h.2.1)]
  · rw [if_neg h1, decide_eq_false (fun h => h1 h.1)]
theorem impl_entry (x : S45) : impl_isEntry.f x.f0 x.f1 = some (entryB x) := by
  have e : impl_isEntry.f x.f0 x.f1 = if (1 : Int) ≤ (x.f0.size : Int) then (if decide ((x.f0.size : Int) ≤ 20) = true then some (decide ((x.f1.size : Int) ≤ 60)) else some false) else some false := by
    unfold impl_isEntry.f impl_isKey.f impl_within.f
    split <;> rfl
  rw [e]; unfold entryB
  by_cases h1 : (1 : Int) ≤ (x.f0.size : Int)
  · by_cases h2 : (x.f0.size : Int) ≤ 20
    · rw [if_pos h1, if_pos (decide_eq_true h2)]; exact congrArg some (decide_eq_decide.2 ⟨fun h => ⟨h1, h2, h⟩, fun h => h.2.2⟩)
    · rw [if_pos h1, if_neg (by simpa using h2), decide_eq_false (fun h => h2 h.2.1)]
  · rw [if_neg h1, decide_eq_false (fun h => h1 h.1)]
def roomB (n : Int) : Bool := decide (100 ≤ n ∧ n ≤ 2000)
theorem spec_room (n : Int) : spec_l12Room.f n = some (roomB n) := by
  have e : spec_l12Room.f n = if n ≥ 100 then some (decide (n ≤ 2000)) else some false := by
    unfold spec_l12Room.f spec_l1In.f
    split <;> rfl
  rw [e]; unfold roomB
  by_cases h1 : n ≥ 100
  · rw [if_pos h1]; exact congrArg some (decide_eq_decide.2 ⟨fun h => ⟨h1, h⟩, fun h => h.2⟩)
  · rw [if_neg h1, decide_eq_false (fun h => h1 h.1)]
theorem impl_room (n : Int) : impl_isRoom.f n = some (roomB n) := by
  have e : impl_isRoom.f n = if (100 : Int) ≤ n then some (decide (n ≤ 2000)) else some false := by
    unfold impl_isRoom.f impl_within.f
    split <;> rfl
  rw [e]; unfold roomB
  by_cases h1 : (100 : Int) ≤ n
  · rw [if_pos h1]; exact congrArg some (decide_eq_decide.2 ⟨fun h => ⟨h1, h⟩, fun h => h.2⟩)
  · rw [if_neg h1, decide_eq_false (fun h => h1 h.1)]
theorem At_l (l : List S45) (a : ByteArray) (hn : l.length ≤ 1048576) (d : Nat) : ∀ (j : Nat), j + d = l.length →
    Ev (fun k => spec_l12At.l0 k a l (l.length : Int) (j : Int)) (fndE a (l.drop j) (j : Int)) := by
  induction d with
  | zero =>
    intro j hj
    rw [List.drop_of_length_le (by omega)]
    refine Ev.step (f := fun _ => some (-1)) (fun k => ?_) (Ev.now _)
    simp only [spec_l12At.l0]; rw [if_neg (by omega)]
  | succ d ih =>
    intro j hj
    have hlt : j < l.length := by omega
    rw [List.drop_eq_getElem_cons hlt]
    by_cases c : l[j].f0.toList = a.toList
    · refine Ev.step (f := fun _ => some (j : Int)) (fun k => ?_) (by simp only [fndE]; rw [if_pos (by simpa using c)]; exact Ev.now _)
      simp only [spec_l12At.l0]
      rw [if_pos (by omega), if_pos (by omega), if_pos (by omega), rd45j l j hlt, if_pos c]
    · refine Ev.step (fun k => ?_) (by simp only [fndE]; rw [if_neg (by simpa using c)]; exact ih (j + 1) (by omega))
      simp only [spec_l12At.l0]
      rw [if_pos (by omega), if_pos (by omega), if_pos (by omega), rd45j l j hlt, if_neg c, wj (n := l.length) hlt (by omega)]
theorem At_ev (l : List S45) (a : ByteArray) (hn : l.length ≤ 1048576) : Ev (fun k => spec_l12At.f k l a) (fndE a l 0) :=
  At_l l a hn l.length 0 (by omega)
theorem fnd_has (a : ByteArray) : ∀ (l : List S45) (i : Int), 0 ≤ i → (fndE a l i ≥ 0 ↔ a.toList ∈ l.map keyE)
  | [], i, hi => by simp [fndE]
  | x :: xs, i, hi => by
    simp only [fndE, List.map_cons, List.mem_cons]
    by_cases c : x.f0.toList = a.toList
    · rw [if_pos (by simpa using c)]
      exact ⟨fun _ => .inl c.symm, fun _ => hi⟩
    · rw [if_neg (by simpa using c), fnd_has a xs (i + 1) (by omega)]
      exact ⟨.inr, fun h => h.resolve_left (fun e => c e.symm)⟩
def wgt : Int → List S45 → Int
  | c, [] => c
  | c, x :: xs => wgt (wrap64 (c + wrap64 ((x.f0.size : Int) + (x.f1.size : Int)))) xs
theorem spec_weight_l (l : List S45) (hn : l.length ≤ 1048576) (d : Nat) : ∀ (j : Nat) (c : Int), j + d = l.length →
    Ev (fun k => spec_l12Weight.l0 k c l (l.length : Int) (j : Int)) (wgt c (l.drop j)) := by
  induction d with
  | zero =>
    intro j c hj
    rw [List.drop_of_length_le (by omega)]
    refine Ev.step (f := fun _ => some c) (fun k => ?_) (Ev.now _)
    simp only [spec_l12Weight.l0]; rw [if_neg (by omega)]
  | succ d ih =>
    intro j c hj
    have hlt : j < l.length := by omega
    rw [List.drop_eq_getElem_cons hlt]
    refine Ev.step (fun k => ?_) (ih (j + 1) _ (by omega))
    simp only [spec_l12Weight.l0]
    rw [if_pos (by omega), if_pos (by omega), if_pos (by omega), rd45j l j hlt, wj (n := l.length) hlt (by omega)]
theorem impl_weight_l (l : List S45) (hn : l.length ≤ 1048576) (d : Nat) : ∀ (j : Nat) (c : Int), j + d = l.length →
    Ev (fun k => impl_weight.l0 k c l (l.length : Int) (j : Int)) (wgt c (l.drop j)) := by
  induction d with
  | zero =>
    intro j c hj
    rw [List.drop_of_length_le (by omega)]
    refine Ev.step (f := fun _ => some c) (fun k => ?_) (Ev.now _)
    simp only [impl_weight.l0]; rw [if_neg (by omega)]
  | succ d ih =>
    intro j c hj
    have hlt : j < l.length := by omega
    rw [List.drop_eq_getElem_cons hlt]
    refine Ev.step (fun k => ?_) (ih (j + 1) _ (by omega))
    simp only [impl_weight.l0]
    rw [if_pos (by omega), if_pos (by omega), if_pos (by omega), rd45j l j hlt, wj (n := l.length) hlt (by omega)]
def PartP (l : List S45) (n : Int) : Prop := (∀ x ∈ l, entryB x = true) ∧ (l.map keyE).Nodup ∧ (l.length : Int) ≤ 60 ∧ wgt 0 l ≤ n
theorem take_has {l : List S45} {j : Nat} (hlt : j < l.length) (h : keyE l[j] ∈ (l.take j).map keyE) : ¬ (l.map keyE).Nodup := by
  intro hnd
  have e : l.map keyE = (l.take j).map keyE ++ (l.drop j).map keyE := by rw [← List.map_append, List.take_append_drop]
  rw [e, List.nodup_append] at hnd
  exact hnd.2.2 _ h _ (List.mem_map_of_mem (by rw [List.drop_eq_getElem_cons hlt]; exact List.mem_cons_self)) rfl
theorem Part_l (l : List S45) (n : Int) (hn : l.length ≤ 1048576) (d : Nat) : ∀ (j : Nat), j + d = l.length → (∀ x ∈ l.take j, entryB x = true) → ((l.take j).map keyE).Nodup →
    ∃ b, Ev (fun k => spec_l12Part.l0 k l n l (l.length : Int) (j : Int)) b ∧ (b = true ↔ PartP l n) := by
  induction d with
  | zero =>
    intro j hj h1 h2
    rw [List.take_of_length_le (by omega)] at h1 h2
    by_cases hl : (l.length : Int) ≤ 60
    · refine ⟨decide (wgt 0 l ≤ n), Ev.step (f := fun k => (spec_l12Weight.f k l).bind fun t => some (decide (t ≤ n))) (fun k => ?_) (Ev.bind (spec_weight_l l hn l.length 0 0 (by omega)) (Ev.now _)), ?_⟩
      · simp only [spec_l12Part.l0]; rw [if_neg (by omega), if_pos hl]
      · rw [decide_eq_true_eq]
        exact ⟨fun h => ⟨h1, h2, hl, h⟩, fun h => h.2.2.2⟩
    · refine ⟨false, Ev.step (f := fun _ => some false) (fun k => ?_) (Ev.now _), ?_⟩
      · simp only [spec_l12Part.l0]; rw [if_neg (by omega), if_neg hl]
      · exact ⟨fun h => (by cases h), fun h => absurd h.2.2.1 hl⟩
  | succ d ih =>
    intro j hj h1 h2
    have hlt : j < l.length := by omega
    have hstep : ∀ k, spec_l12Part.l0 (k + 1) l n l (l.length : Int) (j : Int) = if entryB l[j] = true then ((spec_l12At.f k (l.take j) l[j].f0).bind fun t => if t ≥ 0 then some false else spec_l12Part.l0 k l n l (l.length : Int) ((j + 1 : Nat) : Int)) else some false := fun k => by
      simp only [spec_l12Part.l0]
      rw [if_pos (by omega), if_pos (by omega), if_pos (by omega), rd45j l j hlt, spec_entry, if_pos (show (j : Int) ≤ (l.length : Int) by omega), wj (n := l.length) hlt (by omega)]
      rfl
    by_cases c : entryB l[j] = true
    · have hat := At_ev (l.take j) l[j].f0 (by simp; omega)
      by_cases c2 : fndE l[j].f0 (l.take j) 0 ≥ 0
      · refine ⟨false, Ev.step (fun k => by rw [hstep, if_pos c]) (Ev.bind hat (Ev.congr (f := fun _ => some false) (fun k => by rw [if_pos c2]) (Ev.now _))), ?_⟩
        exact ⟨fun h => (by cases h), fun h => absurd h.2.1 (take_has hlt ((fnd_has _ _ 0 (by omega)).1 c2))⟩
      · obtain ⟨b, e1, e2⟩ := ih (j + 1) (by omega) (fun x hx => by
          rw [List.take_succ_eq_append_getElem hlt, List.mem_append] at hx
          rcases hx with hx | hx
          · exact h1 x hx
          · rw [List.mem_singleton.1 hx]; exact c) (by
          rw [List.take_succ_eq_append_getElem hlt, List.map_append, List.nodup_append]
          refine ⟨h2, by simp, fun a ha b hb e => ?_⟩
          simp only [List.map_cons, List.map_nil, List.mem_singleton] at hb
          subst e
          rw [hb] at ha
          exact c2 ((fnd_has _ _ 0 (by omega)).2 ha))
        exact ⟨b, Ev.step (fun k => by rw [hstep, if_pos c]) (Ev.bind hat (Ev.congr (fun k => by rw [if_neg c2]) e1)), e2⟩
    · refine ⟨false, Ev.step (f := fun _ => some false) (fun k => by rw [hstep, if_neg c]) (Ev.now _), ?_⟩
      exact ⟨fun h => (by cases h), fun h => absurd (h.1 _ (List.getElem_mem hlt)) c⟩
theorem Part_ev (l : List S45) (n : Int) (hn : l.length ≤ 1048576) : ∃ b, Ev (fun k => spec_l12Part.f k l n) b ∧ (b = true ↔ PartP l n) :=
  Part_l l n hn l.length 0 (by omega) (by simp) (by simp)
def GoodP (n o : Int) (t s : List S45) : Prop := roomB n = true ∧ roomB o = true ∧ PartP t n ∧ PartP s o ∧ ∀ x ∈ s, keyE x ∉ t.map keyE
theorem Good_l (n o : Int) (t s : List S45) (ht : t.length ≤ 1048576) (hs : s.length ≤ 1048576) (d : Nat) : ∀ (j : Nat), j + d = s.length → (∀ x ∈ s.take j, keyE x ∉ t.map keyE) →
    ∃ b, Ev (fun k => spec_GoodSegmented.l0 k s (s.length : Int) (j : Int) n o t s) b ∧ (b = true ↔ GoodP n o t s) := by
  induction d with
  | zero =>
    intro j hj h1
    rw [List.take_of_length_le (by omega)] at h1
    have hstep : ∀ k, spec_GoodSegmented.l0 (k + 1) s (s.length : Int) (j : Int) n o t s = if roomB n = true then (if roomB o = true then ((spec_l12Part.f k t n).bind fun t129 => (if t129 = true then ((spec_l12Part.f k s o).bind fun t130 => (some t130)) else (some false))) else some false) else some false := fun k => by
      simp only [spec_GoodSegmented.l0]
      rw [if_neg (by omega), spec_room, spec_room]
      rfl
    by_cases c1 : roomB n = true
    · by_cases c2 : roomB o = true
      · obtain ⟨b, e1, e2⟩ := Part_ev t n ht
        obtain ⟨b', e3, e4⟩ := Part_ev s o hs
        cases b with
        | false =>
          refine ⟨false, Ev.step (fun k => by rw [hstep, if_pos c1, if_pos c2]) (Ev.bind e1 (Ev.congr (f := fun _ => some false) (fun k => by rw [if_neg (by simp)]) (Ev.now _))), ?_⟩
          exact ⟨fun h => (by cases h), fun h => e2.2 h.2.2.1⟩
        | true =>
          refine ⟨b', Ev.step (fun k => by rw [hstep, if_pos c1, if_pos c2]) (Ev.bind e1 (Ev.congr (fun k => by rw [if_pos rfl]) (Ev.bind e3 (Ev.now _)))), ?_⟩
          exact ⟨fun h => ⟨c1, c2, e2.1 rfl, e4.1 h, h1⟩, fun h => e4.2 h.2.2.2.1⟩
      · refine ⟨false, Ev.step (f := fun _ => some false) (fun k => by rw [hstep, if_pos c1, if_neg c2]) (Ev.now _), ?_⟩
        exact ⟨fun h => (by cases h), fun h => absurd h.2.1 c2⟩
    · refine ⟨false, Ev.step (f := fun _ => some false) (fun k => by rw [hstep, if_neg c1]) (Ev.now _), ?_⟩
      exact ⟨fun h => (by cases h), fun h => absurd h.1 c1⟩
  | succ d ih =>
    intro j hj h1
    have hlt : j < s.length := by omega
    have hstep : ∀ k, spec_GoodSegmented.l0 (k + 1) s (s.length : Int) (j : Int) n o t s = (spec_l12At.f k t s[j].f0).bind fun u => if u ≥ 0 then some false else spec_GoodSegmented.l0 k s (s.length : Int) ((j + 1 : Nat) : Int) n o t s := fun k => by
      simp only [spec_GoodSegmented.l0]
      rw [if_pos (by omega), if_pos (by omega), if_pos (by omega), rd45j s j hlt, wj (n := s.length) hlt (by omega)]
    have hat := At_ev t s[j].f0 ht
    by_cases c2 : fndE s[j].f0 t 0 ≥ 0
    · refine ⟨false, Ev.step hstep (Ev.bind hat (Ev.congr (f := fun _ => some false) (fun k => by rw [if_pos c2]) (Ev.now _))), ?_⟩
      exact ⟨fun h => (by cases h), fun h => absurd ((fnd_has _ _ 0 (by omega)).1 c2) (h.2.2.2.2 _ (List.getElem_mem hlt))⟩
    · obtain ⟨b, e1, e2⟩ := ih (j + 1) (by omega) (fun x hx => by
        rw [List.take_succ_eq_append_getElem hlt, List.mem_append] at hx
        rcases hx with hx | hx
        · exact h1 x hx
        · rw [List.mem_singleton.1 hx]; exact fun hm => c2 ((fnd_has _ _ 0 (by omega)).2 hm))
      exact ⟨b, Ev.step hstep (Ev.bind hat (Ev.congr (fun k => by rw [if_neg c2]) e1)), e2⟩
theorem uniqE_iff : ∀ (l : List S45) (seen : List (List UInt8)), uniqE seen l = true ↔ (l.map keyE).Nodup ∧ ∀ x ∈ l, keyE x ∉ seen
  | [], seen => by simp [uniqE]
  | x :: xs, seen => by
    have e : x.f0.data.toList = keyE x := (ByteArray.toList_eq _).symm
    simp only [uniqE, e, List.map_cons, List.nodup_cons, List.mem_cons, forall_eq_or_imp]
    by_cases c : keyE x ∈ seen
    · rw [if_pos (by simpa using c)]
      exact ⟨fun h => (by cases h), fun h => absurd c h.2.1⟩
    · rw [if_neg (by simpa using c), uniqE_iff xs]
      constructor
      · rintro ⟨h1, h2⟩
        refine ⟨⟨fun hm => ?_, h1⟩, c, fun y hy hm => h2 y hy (List.mem_cons_of_mem _ hm)⟩
        obtain ⟨y, hy, e⟩ := List.mem_map.1 hm
        exact h2 y hy (e ▸ List.mem_cons_self)
      · rintro ⟨⟨h1, h2⟩, _, h4⟩
        refine ⟨h2, fun y hy hm => ?_⟩
        rcases List.mem_cons.1 hm with h | h
        · exact h1 (h ▸ List.mem_map_of_mem hy)
        · exact h4 y hy h
theorem allE_iff : ∀ l : List S45, ∃ b, allE l = some b ∧ (b = true ↔ ∀ x ∈ l, entryB x = true)
  | [] => ⟨true, rfl, by simp⟩
  | x :: xs => by
    obtain ⟨b, h1, h2⟩ := allE_iff xs
    have e : allE (x :: xs) = if entryB x = true then allE xs else some false := by
      show (impl_isEntry.f x.f0 x.f1).bind _ = _
      rw [impl_entry]; rfl
    by_cases c : entryB x = true
    · exact ⟨b, by rw [e, if_pos c, h1], by rw [h2]; simp [c]⟩
    · exact ⟨false, by rw [e, if_neg c], by simp [c]⟩
theorem fits_ev (l : List S45) (n : Int) (hn : l.length ≤ 1048576) : ∃ b, Ev (fun k => impl_fits.f k l n) b ∧ (b = true ↔ (l.length : Int) ≤ 60 ∧ wgt 0 l ≤ n) := by
  by_cases hl : (l.length : Int) ≤ 60
  · refine ⟨decide (wgt 0 l ≤ n), Ev.congr (f := fun k => (impl_weight.f k l).bind fun t => some (decide (t ≤ n))) (fun k => by unfold impl_fits.f; rw [if_pos hl]) (Ev.bind (impl_weight_l l hn l.length 0 0 (by omega)) (Ev.now _)), ?_⟩
    rw [decide_eq_true_eq]
    exact ⟨fun h => ⟨hl, h⟩, fun h => h.2⟩
  · exact ⟨false, Ev.congr (f := fun _ => some false) (fun k => by unfold impl_fits.f; rw [if_neg hl]) (Ev.now _), ⟨fun h => (by cases h), fun h => absurd h.1 hl⟩⟩
theorem Good_impl (n o : Int) (t s : List S45) (ht : t.length ≤ 1048576) (hs : s.length ≤ 1048576) (hz : ∀ x ∈ t ++ s, x.f0.size ≤ 1048576) :
    ∃ b, Ev (fun k => impl_GoodSegmented.f k n o t s) b ∧ (b = true ↔ GoodP n o t s) := by
  have no : ∀ {g : Nat → Option Bool}, (∀ k, g k = some false) → ¬ GoodP n o t s → ∃ b, Ev g b ∧ (b = true ↔ GoodP n o t s) := fun hg hn => ⟨false, Ev.congr (f := fun _ => some false) hg (Ev.now _), ⟨fun h => (by cases h), fun h => absurd h hn⟩⟩
  have bd : ∀ {α : Type} {f : Nat → Option α} {a : α} {g : Nat → α → Option Bool}, Ev f a → (∃ b, Ev (fun k => g k a) b ∧ (b = true ↔ GoodP n o t s)) → ∃ b, Ev (fun k => (f k).bind (g k)) b ∧ (b = true ↔ GoodP n o t s) := fun h ⟨b, h1, h2⟩ => ⟨b, Ev.bind h h1, h2⟩
  unfold impl_GoodSegmented.f
  rw [impl_room, impl_room]
  refine bd (Ev.now _) ?_
  by_cases c1 : roomB n = true
  rotate_left
  · exact no (fun k => by rw [if_neg c1]) (fun h => c1 h.1)
  simp only [if_pos c1]
  refine bd (Ev.now _) ?_
  by_cases c2 : roomB o = true
  rotate_left
  · exact no (fun k => by rw [if_neg c2]) (fun h => c2 h.2.1)
  simp only [if_pos c2]
  obtain ⟨b3, e3, f3⟩ := fits_ev t n ht
  refine bd e3 ?_
  by_cases c3 : b3 = true
  rotate_left
  · exact no (fun k => by rw [if_neg c3]) (fun h => c3 (f3.2 h.2.2.1.2.2))
  simp only [if_pos c3]
  obtain ⟨b4, e4, f4⟩ := fits_ev s o hs
  refine bd e4 ?_
  by_cases c4 : b4 = true
  rotate_left
  · exact no (fun k => by rw [if_neg c4]) (fun h => c4 (f4.2 h.2.2.2.1.2.2))
  simp only [if_pos c4]
  obtain ⟨b5, e5, f5⟩ := allE_iff t
  rw [e5]
  refine bd (Ev.now _) ?_
  by_cases c5 : b5 = true
  rotate_left
  · exact no (fun k => by rw [if_neg c5]) (fun h => c5 (f5.2 h.2.2.1.1))
  simp only [if_pos c5]
  obtain ⟨b6, e6, f6⟩ := allE_iff s
  rw [e6]
  refine bd (Ev.now _) ?_
  by_cases c6 : b6 = true
  rotate_left
  · exact no (fun k => by rw [if_neg c6]) (fun h => c6 (f6.2 h.2.2.2.1.1))
  simp only [if_pos c6]
  have ec : slices_ConcatE.f [t, s] = some (t ++ s) := by
    unfold slices_ConcatE.f
    have e : [t, s].flatten = t ++ s := by simp
    rw [e, if_pos (by rw [List.length_append]; omega)]
  rw [ec]
  refine bd (Ev.now _) ?_
  have ez : ((t ++ s).all fun x => decide (x.f0.size ≤ 9223372036854775807)) = true := by
    rw [List.all_eq_true]; intro x hx
    have := hz x hx
    simp only [decide_eq_true_eq]; omega
  simp only [ez, if_true]
  refine ⟨_, Ev.now _, ?_⟩
  rw [uniqE_iff, List.map_append, List.nodup_append]
  obtain ⟨l3, w3⟩ := f3.1 c3
  obtain ⟨l4, w4⟩ := f4.1 c4
  constructor
  · rintro ⟨⟨h1, h2, h3⟩, _⟩
    exact ⟨c1, c2, ⟨f5.1 c5, h1, l3, w3⟩, ⟨f6.1 c6, h2, l4, w4⟩, fun x hx hm => h3 _ hm _ (List.mem_map_of_mem hx) rfl⟩
  · rintro ⟨_, _, h3, h4, h5⟩
    refine ⟨⟨h3.2.1, h4.2.1, fun a ha b hb e => ?_⟩, fun x hx => by simp⟩
    obtain ⟨x, hx, rfl⟩ := List.mem_map.1 hb
    exact h5 x hx (e ▸ ha)
theorem Own_spec (n o : Int) (t s : List S45) (ht : t.length ≤ 1048576) (hs : s.length ≤ 1048576) : spec_l12Own.f n o t s = some (n, o, t, s) := by
  unfold spec_l12Own.f
  simp only [Option.bind_some, List.length_nil, Nat.zero_add, List.nil_append]
  rw [if_pos (by omega), if_pos (by omega)]
theorem Own_impl (n o : Int) (t s : List S45) (ht : t.length ≤ 1048576) (hs : s.length ≤ 1048576) : impl_Segmented_own.f n o t s = some (n, o, t, s) := by
  unfold impl_Segmented_own.f slices_CloneE.f
  rw [if_pos (by omega), if_pos (by omega)]
  rfl
theorem Without_eq (l : List S45) (j : Nat) (hj : j < l.length) (hn : l.length ≤ 1048576) : spec_l12Without.f l (j : Int) = some (l.eraseIdx j) := by
  unfold spec_l12Without.f
  simp only [Option.bind_some, List.length_nil, Nat.zero_add, List.nil_append, wj (n := l.length) hj (by omega), Int.toNat_natCast]
  rw [if_pos (by omega), if_pos (by omega), if_pos (by simp; omega), if_pos (by omega), if_pos (by omega), if_pos (by simp; omega), List.eraseIdx_eq_take_drop_succ]
def sumE : List S45 → Nat
  | [] => 0
  | x :: xs => x.f0.size + x.f1.size + sumE xs
theorem sumE_le : ∀ l : List S45, (∀ x ∈ l, x.f0.size ≤ 1048576 ∧ x.f1.size ≤ 1048576) → sumE l ≤ 2097152 * l.length
  | [], _ => Nat.le_refl _
  | x :: xs, h => by
    have h1 := h x List.mem_cons_self
    have h2 := sumE_le xs (fun y hy => h y (List.mem_cons_of_mem _ hy))
    simp only [sumE, List.length_cons]; omega
theorem wgt_sum : ∀ (l : List S45) (c : Nat), c + sumE l ≤ 4398046511104 → wgt (c : Int) l = ((c + sumE l : Nat) : Int)
  | [], c, _ => rfl
  | x :: xs, c, h => by
    simp only [sumE] at h
    unfold wgt
    rw [w64 (x := (x.f0.size : Int) + (x.f1.size : Int)) (by omega) (by omega), w64 (by omega) (by omega), show (c : Int) + ((x.f0.size : Int) + (x.f1.size : Int)) = ((c + (x.f0.size + x.f1.size) : Nat) : Int) by omega, wgt_sum xs _ (by omega)]
    simp only [sumE]; omega
theorem ahead_spec (l : List S45) (a b : ByteArray) (h : l.length ≤ 1048576) : spec_l12Ahead.f l a b = some (⟨a, b⟩ :: l) := by
  unfold spec_l12Ahead.f
  simp only [Option.bind_some]
  rw [if_pos (by simp; omega)]; rfl
theorem ahead_impl (l : List S45) (a b : ByteArray) (h : l.length ≤ 1048576) : impl_ahead.f l a b = some (⟨a, b⟩ :: l) := by
  unfold impl_ahead.f
  rw [if_pos (by omega)]
def fitsP (l : List S45) (n : Int) : Prop := (l.length : Int) ≤ 60 ∧ wgt 0 l ≤ n
theorem take_last (s : List S45) (m : Nat) (hs : s.length = m + 1) : s = s.take m ++ [s[m]'(by omega)] := by
  have h := List.take_succ_eq_append_getElem (show m < s.length by omega)
  rw [← h, List.take_of_length_le (by omega)]
theorem fit0 (n o : Int) (ho : 0 ≤ o) : ∀ (m : Nat) (s t : List S45), s.length = m → t.length + s.length ≤ 1000 →
    ∃ t' s' r, Ev (fun k => settleE.l0 k o t s) (t', s') ∧ (∀ R, Ev (fun k => spec_l12Fit.j1 k n o t' s') R → Ev (fun k => spec_l12Fit.l0 k (s.length : Int) n o t s) R) ∧ t' = r ++ t ∧ s = s' ++ r ∧ fitsP s' o ∧ (∀ p, p <+: s → fitsP p o → p <+: s')
  | 0, s, t, hs, hl => by
    have e : s = [] := List.eq_nil_of_length_eq_zero hs
    subst e
    obtain ⟨b, f1, f2⟩ := fits_ev ([] : List S45) o (by simp)
    have hb : b = true := f2.2 ⟨by simp, ho⟩
    subst hb
    refine ⟨t, [], [], Ev.step (fun k => by simp only [settleE.l0] <;> rfl) (Ev.bind f1 ?_), fun R hR => Ev.step (fun k => ?_) hR, rfl, rfl, ⟨by simp, ho⟩, fun p hp _ => hp⟩
    · simp only [if_true]; exact Ev.now _
    · simp only [spec_l12Fit.l0]; rw [if_neg (by simp)]
  | m + 1, s, t, hs, hl => by
    obtain ⟨b, f1, f2⟩ := fits_ev s o (by omega)
    have hw := spec_weight_l s (by omega) s.length 0 0 (by omega)
    have hm : m < s.length := by omega
    have er : rd_T45 s ((s.length : Int) - 1) = s[m] := by rw [show (s.length : Int) - 1 = (m : Int) by omega]; exact rd45j s m hm
    have er2 : wrap64 ((s.length : Int) - 1) = (m : Int) := by rw [w64 (by omega) (by omega)]; omega
    have em : s.length - 1 = m := by omega
    have hX : ∀ k, (if 0 ≤ (m : Int) then (if (m : Int) < (s.length : Int) then ((spec_l12Ahead.f t ((rd_T45 s (m : Int)).f0) ((rd_T45 s (m : Int)).f1)).bind fun t219 => (if (m : Int) ≤ (s.length : Int) then (spec_l12Fit.l0 k (m : Int) n o t219 (s.take ((m : Int)).toNat)) else (none))) else (none)) else (none)) = spec_l12Fit.l0 k (m : Int) n o (⟨s[m].f0, s[m].f1⟩ :: t) (s.take m) := fun k => by
      rw [if_pos (by omega), if_pos (by omega), rd45j s m hm, ahead_spec _ _ _ (by omega)]
      simp only [Option.bind_some]
      rw [if_pos (by omega), Int.toNat_natCast]
    have hstep : ∀ k, spec_l12Fit.l0 (k + 1) (s.length : Int) n o t s = if (s.length : Int) > 60 then spec_l12Fit.l0 k (m : Int) n o (⟨s[m].f0, s[m].f1⟩ :: t) (s.take m) else ((spec_l12Weight.f k s).bind fun t246 => if t246 > o then spec_l12Fit.l0 k (m : Int) n o (⟨s[m].f0, s[m].f1⟩ :: t) (s.take m) else spec_l12Fit.j1 k n o t s) := fun k => by
      simp only [spec_l12Fit.l0, er2]
      rw [if_pos (by omega), hX]
    by_cases hb : b = true
    · subst hb
      obtain ⟨h60, hwo⟩ := f2.1 rfl
      refine ⟨t, s, [], Ev.step (fun k => by simp only [settleE.l0] <;> rfl) (Ev.bind f1 ?_), fun R hR => Ev.step (fun k => by rw [hstep, if_neg (by omega)] <;> rfl) (Ev.bind hw ?_), rfl, by simp, ⟨h60, hwo⟩, fun p hp _ => hp⟩
      · simp only [if_true]; exact Ev.now _
      · rw [List.drop_zero]
        simp only [if_neg (show ¬ wgt 0 s > o by omega)]; exact hR
    · obtain ⟨t', s', r, g1, g2, g3, g4, g5, g6⟩ := fit0 n o ho m (s.take m) (⟨s[m].f0, s[m].f1⟩ :: t) (by simp; omega) (by simp; omega)
      have elen : ((s.take m).length : Int) = (m : Int) := by simp; omega
      rw [elen] at g2
      refine ⟨t', s', r ++ [s[m]], Ev.step (fun k => by simp only [settleE.l0] <;> rfl) (Ev.bind f1 ?_), fun R hR => ?_, by rw [g3]; simp, by rw [← List.append_assoc, ← g4]; exact take_last s m hs, g5, fun p hp hf => g6 p (List.prefix_take_iff.2 ⟨hp, ?_⟩) hf⟩
      rotate_left
      rotate_left
      · have h1 := hp.length_le
        by_cases c : p.length = s.length
        · rw [hp.eq_of_length c] at hf
          exact absurd (f2.2 hf) hb
        · omega
      · simp only [if_neg hb]
        refine Ev.congr (fun k => ?_) g1
        rw [if_pos (by omega), er, ahead_impl _ _ _ (by omega), em]
        rfl
      · have go := g2 R hR
        by_cases c60 : (s.length : Int) > 60
        · exact Ev.step (fun k => by rw [hstep, if_pos c60]) go
        · have hwo : wgt 0 s > o := by
            have : ¬ ((s.length : Int) ≤ 60 ∧ wgt 0 s ≤ o) := fun h => hb (f2.2 h)
            omega
          refine Ev.step (fun k => by rw [hstep, if_neg c60] <;> rfl) (Ev.bind hw ?_)
          rw [List.drop_zero]
          simp only [if_pos hwo]; exact go
theorem fit1 (n o : Int) (hn : 0 ≤ n) (s : List S45) (hs : s.length ≤ 1000) : ∀ (m : Nat) (t th : List S45), t.length = m → th.length + t.length ≤ 1000 →
    ∃ t' th' r, Ev (fun k => settleE.l1 k n t th) (t', th') ∧ Ev (fun k => spec_l12Fit.l1 k th (t.length : Int) n o t s) (n, o, t', s, th') ∧ t = t' ++ r ∧ th' = th ++ r.reverse ∧ fitsP t' n ∧ (∀ p, p <+: t → fitsP p n → p <+: t')
  | 0, t, th, ht, hl => by
    have e : t = [] := List.eq_nil_of_length_eq_zero ht
    subst e
    obtain ⟨b, f1, f2⟩ := fits_ev ([] : List S45) n (by simp)
    have hb : b = true := f2.2 ⟨by simp, hn⟩
    subst hb
    refine ⟨[], th, [], Ev.step (fun k => by simp only [settleE.l1] <;> rfl) (Ev.bind f1 ?_), Ev.step (f := fun _ => some (n, o, [], s, th)) (fun k => ?_) (Ev.now _), rfl, by simp, ⟨by simp, hn⟩, fun p hp _ => hp⟩
    · simp only [if_true]; exact Ev.now _
    · simp only [spec_l12Fit.l1]; rw [if_neg (by simp), Own_spec n o [] s (by simp) (by omega)]; rfl
  | m + 1, t, th, ht, hl => by
    obtain ⟨b, f1, f2⟩ := fits_ev t n (by omega)
    have hw := spec_weight_l t (by omega) t.length 0 0 (by omega)
    have hm : m < t.length := by omega
    have er : rd_T45 t ((t.length : Int) - 1) = t[m] := by rw [show (t.length : Int) - 1 = (m : Int) by omega]; exact rd45j t m hm
    have er2 : wrap64 ((t.length : Int) - 1) = (m : Int) := by rw [w64 (by omega) (by omega)]; omega
    have em : t.length - 1 = m := by omega
    have hX : ∀ k, (if 0 ≤ (m : Int) then (if (m : Int) < (t.length : Int) then (if th.length < 4398046511104 then (if (m : Int) ≤ (t.length : Int) then (spec_l12Fit.l1 k (th ++ [(⟨(rd_T45 t (m : Int)).f0, (rd_T45 t (m : Int)).f1⟩ : S45)]) (m : Int) n o (t.take ((m : Int)).toNat) s) else (none)) else (none)) else (none)) else (none)) = spec_l12Fit.l1 k (th ++ [t[m]]) (m : Int) n o (t.take m) s := fun k => by
      rw [if_pos (by omega), if_pos (by omega), if_pos (by omega), if_pos (by omega), rd45j t m hm, Int.toNat_natCast]
    have hstep : ∀ k, spec_l12Fit.l1 (k + 1) th (t.length : Int) n o t s = if (t.length : Int) > 60 then spec_l12Fit.l1 k (th ++ [t[m]]) (m : Int) n o (t.take m) s else ((spec_l12Weight.f k t).bind fun t246 => if t246 > n then spec_l12Fit.l1 k (th ++ [t[m]]) (m : Int) n o (t.take m) s else some (n, o, t, s, th)) := fun k => by
      simp only [spec_l12Fit.l1, er2]
      rw [if_pos (by omega), hX, Own_spec n o t s (by omega) (by omega)]; rfl
    by_cases hb : b = true
    · subst hb
      obtain ⟨h60, hwo⟩ := f2.1 rfl
      refine ⟨t, th, [], Ev.step (fun k => by simp only [settleE.l1] <;> rfl) (Ev.bind f1 ?_), Ev.step (fun k => by rw [hstep, if_neg (by omega)] <;> rfl) (Ev.bind hw ?_), by simp, by simp, ⟨h60, hwo⟩, fun p hp _ => hp⟩
      · simp only [if_true]; exact Ev.now _
      · rw [List.drop_zero]
        simp only [if_neg (show ¬ wgt 0 t > n by omega)]; exact Ev.now _
    · obtain ⟨t', th', r, g1, g2, g3, g4, g5, g6⟩ := fit1 n o hn s hs m (t.take m) (th ++ [t[m]]) (by simp; omega) (by simp; omega)
      have elen : ((t.take m).length : Int) = (m : Int) := by simp; omega
      rw [elen] at g2
      refine ⟨t', th', r ++ [t[m]], Ev.step (fun k => by simp only [settleE.l1] <;> rfl) (Ev.bind f1 ?_), ?_, by rw [← List.append_assoc, ← g3]; exact take_last t m ht, by rw [g4]; simp, g5, fun p hp hf => g6 p (List.prefix_take_iff.2 ⟨hp, ?_⟩) hf⟩
      rotate_left
      rotate_left
      · have h1 := hp.length_le
        by_cases c : p.length = t.length
        · rw [hp.eq_of_length c] at hf
          exact absurd (f2.2 hf) hb
        · omega
      · simp only [if_neg hb]
        refine Ev.congr (fun k => ?_) g1
        rw [if_pos (by omega), if_pos (by omega), er, em]
      · by_cases c60 : (t.length : Int) > 60
        · exact Ev.step (fun k => by rw [hstep, if_pos c60]) g2
        · have hwo : wgt 0 t > n := by
            have : ¬ ((t.length : Int) ≤ 60 ∧ wgt 0 t ≤ n) := fun h => hb (f2.2 h)
            omega
          refine Ev.step (fun k => by rw [hstep, if_neg c60] <;> rfl) (Ev.bind hw ?_)
          rw [List.drop_zero]
          simp only [if_pos hwo]; exact g2
theorem fit_both (n o : Int) (hn : 0 ≤ n) (ho : 0 ≤ o) (t s : List S45) (hl : t.length + s.length ≤ 1000) :
    ∃ t' s' th m r, Ev (fun k => settleE.f k n o t s) (t', s', th) ∧ Ev (fun k => spec_l12Fit.f k n o t s) (n, o, t', s', th) ∧ m ++ t = t' ++ r ∧ s = s' ++ m ∧ th = r.reverse ∧ fitsP t' n ∧ fitsP s' o ∧ (∀ p, p <+: s → fitsP p o → p <+: s') ∧ (∀ p, p <+: m ++ t → fitsP p n → p <+: t') := by
  obtain ⟨t1, s1, m, g1, g2, g3, g4, g5, g6⟩ := fit0 n o ho s.length s t rfl hl
  have hl1 : t1.length + s1.length ≤ 1000 := by
    rw [g4] at hl; rw [g3]; simp only [List.length_append] at hl ⊢; omega
  obtain ⟨t2, th, r, h1, h2, h3, h4, h5, h6⟩ := fit1 n o hn s1 (by omega) t1.length t1 [] rfl (by simp; omega)
  refine ⟨t2, s1, th, m, r, ?_, ?_, by rw [← g3]; exact h3, g4, by rw [h4]; rfl, h5, g5, g6, fun p hp hf => h6 p (by rw [g3]; exact hp) hf⟩
  · unfold settleE.f
    exact Ev.bind g1 (Ev.bind h1 (Ev.now _))
  · unfold spec_l12Fit.f
    exact g2 _ (Ev.step (fun k => by simp only [spec_l12Fit.j1]) h2)

def PreP (t s : List S45) : Prop := (∀ x ∈ t ++ s, entryB x = true) ∧ ((t ++ s).map keyE).Nodup
theorem good_pre {n o : Int} {t s : List S45} (h : GoodP n o t s) : PreP t s := by
  obtain ⟨_, _, ht, hs, hd⟩ := h
  refine ⟨fun x hx => (List.mem_append.1 hx).elim (ht.1 x) (hs.1 x), ?_⟩
  rw [List.map_append, List.nodup_append]
  refine ⟨ht.2.1, hs.2.1, fun a ha b hb e => ?_⟩
  obtain ⟨x, hx, rfl⟩ := List.mem_map.1 hb
  exact hd x hx (e ▸ ha)
theorem pre_good {n o : Int} {t s : List S45} (hn : roomB n = true) (ho : roomB o = true) (h : PreP t s) (ft : fitsP t n) (fs : fitsP s o) : GoodP n o t s := by
  obtain ⟨h1, h2⟩ := h
  rw [List.map_append, List.nodup_append] at h2
  exact ⟨hn, ho, ⟨fun x hx => h1 x (List.mem_append_left _ hx), h2.1, ft⟩, ⟨fun x hx => h1 x (List.mem_append_right _ hx), h2.2.1, fs⟩, fun x hx hm => h2.2.2 _ hm _ (List.mem_map_of_mem hx) rfl⟩
theorem pre_perm {t s t' s' r : List S45} (hp : (t' ++ s' ++ r).Perm (t ++ s)) (h : PreP t s) : PreP t' s' := by
  refine ⟨fun x hx => h.1 x (hp.mem_iff.1 (List.mem_append_left _ hx)), ?_⟩
  have := (hp.map keyE).nodup_iff.2 h.2
  rw [List.map_append] at this
  exact (List.nodup_append.1 this).1
theorem fit_perm {t s t' s' m r : List S45} (h1 : m ++ t = t' ++ r) (h2 : s = s' ++ m) : (t' ++ s' ++ r).Perm (t ++ s) := by
  subst h2
  have e1 : (t' ++ s' ++ r).Perm ((t' ++ r) ++ s') := by
    rw [List.append_assoc, List.append_assoc]; exact List.Perm.append_left _ List.perm_append_comm
  refine e1.trans ?_
  rw [← h1, List.append_assoc]
  refine List.perm_append_comm.trans ?_
  rw [List.append_assoc]
theorem fndE_key (a : ByteArray) : ∀ (l : List S45) (i j : Nat) (hj : j < l.length), fndE a l i = ((i + j : Nat) : Int) → keyE l[j] = a.toList
  | x :: xs, i, j, hj, h => by
    simp only [fndE] at h
    by_cases c : x.f0.toList = a.toList
    · rw [if_pos (by simpa using c)] at h
      obtain rfl : j = 0 := by omega
      exact c
    · rw [if_neg (by simpa using c)] at h
      cases j with
      | zero =>
        have h' : fndE a xs ((i + 1 : Nat) : Int) = ((i + 0 : Nat) : Int) := h
        rcases fndE_range a xs (i + 1) with e | ⟨j, hj, e⟩ <;> omega
      | succ j => exact fndE_key a xs (i + 1) j (by simpa using hj) (by have h' : fndE a xs ((i + 1 : Nat) : Int) = ((i + (j + 1) : Nat) : Int) := h; omega)
theorem fndE_cases (a : ByteArray) (l : List S45) : (fndE a l 0 = -1 ∧ a.toList ∉ l.map keyE) ∨ ∃ j, ∃ h : j < l.length, fndE a l 0 = (j : Int) ∧ keyE l[j] = a.toList := by
  rcases fndE_at a l with e | ⟨j, hj, e⟩
  · exact .inl ⟨e, fun h => by have := (fnd_has a l 0 (by omega)).2 h; omega⟩
  · exact .inr ⟨j, hj, e, fndE_key a l 0 j hj (by rw [Nat.zero_add]; exact e)⟩
theorem one_fits {e : S45} {o : Int} (he : entryB e = true) (ho : roomB o = true) : fitsP [e] o := by
  have h1 := of_decide_eq_true he
  have h2 := of_decide_eq_true ho
  refine ⟨by simp, ?_⟩
  simp only [wgt]
  rw [w64 (x := (e.f0.size : Int) + (e.f1.size : Int)) (by omega) (by omega), w64 (by omega) (by omega)]
  omega
theorem fitsP_perm {l l' : List S45} {n : Int} (hz : ∀ x ∈ l, entryB x = true) (hp : l'.Perm l) (h : fitsP l n) : fitsP l' n := by
  have hs : ∀ {l l' : List S45}, l'.Perm l → sumE l' = sumE l := by
    intro l l' hp
    induction hp with
    | nil => rfl
    | cons x _ ih => simp only [sumE]; omega
    | swap x y l => simp only [sumE]; omega
    | trans _ _ h1 h2 => omega
  have hb : ∀ x ∈ l, x.f0.size ≤ 1048576 ∧ x.f1.size ≤ 1048576 := fun x hx => by have := of_decide_eq_true (hz x hx); omega
  have h1 := sumE_le l hb
  have h2 := hs hp
  have hl := h.1
  refine ⟨by rw [hp.length_eq]; exact h.1, ?_⟩
  have e1 : wgt 0 l' = _ := wgt_sum l' 0 (by omega)
  have e2 : wgt 0 l = _ := wgt_sum l 0 (by omega)
  have := h.2
  omega
theorem cons_erase_perm (s : List S45) (j : Nat) (hj : j < s.length) : (s[j] :: s.eraseIdx j).Perm s := by
  rw [List.eraseIdx_eq_take_drop_succ]
  refine (List.perm_middle (l₁ := s.take j)).symm.trans ?_
  rw [← List.drop_eq_getElem_cons hj, List.take_append_drop]
/-- Asking: both alike, the good state stays good; what lies there lay there. -/
theorem Get_both (n o : Int) (t s : List S45) (a : ByteArray) (hg : GoodP n o t s) :
    ∃ t' s' v b r, Ev (fun k => spec_l12Get.f k n o t s a) (n, o, t', s', v, b) ∧ Ev (fun k => impl_Segmented_get.f k n o t s a) (n, o, t', s', v, b) ∧ GoodP n o t' s' ∧ (t' ++ s' ++ r).Perm (t ++ s) ∧
      ((b = true ∧ ∃ e q, s' = e :: q ∧ keyE e = a.toList ∧ v = e.f1 ∧ e ∈ t ++ s) ∨ (b = false ∧ v = ⟨#[]⟩ ∧ a.toList ∉ (t ++ s).map keyE ∧ t' = t ∧ s' = s)) := by
  have hpre := good_pre hg
  have hg' := hg
  obtain ⟨hn, ho, hpt, hps, hd⟩ := hg
  have hn0 : 0 ≤ n := by have := of_decide_eq_true hn; omega
  have ho0 : 0 ≤ o := by have := of_decide_eq_true ho; omega
  have lt : t.length ≤ 60 := by have := hpt.2.2.1; omega
  have ls : s.length ≤ 60 := by have := hps.2.2.1; omega
  have hat0 := At_ev s a (by omega)
  have at' := At_ev t a (by omega)
  unfold spec_l12Get.f impl_Segmented_get.f
  rw [Own_impl n o t s (by omega) (by omega)]
  rcases fndE_cases a s with ⟨e, ne⟩ | ⟨j, hj, e, kj⟩
  · rcases fndE_cases a t with ⟨f, nf⟩ | ⟨i, hi, f, ki⟩
    · refine ⟨t, s, ⟨#[]⟩, false, [], Ev.bind hat0 ?_, Ev.bind (Ev.now _) ?_, hg', by rw [List.append_nil], .inr ⟨rfl, rfl, ?_, rfl, rfl⟩⟩
      · simp only [if_neg (show ¬ fndE a s 0 ≥ 0 by omega)]
        refine Ev.bind at' ?_
        simp only [if_pos (show fndE a t 0 < 0 by omega)]
        exact Ev.now _
      · simp only [takeE, if_neg (show ¬ 0 ≤ fndE a s 0 by omega), if_neg (show ¬ 0 ≤ fndE a t 0 by omega)]
        exact Ev.now _
      · rw [List.map_append, List.mem_append]
        exact fun h => h.elim nf ne
    · have hle := List.length_eraseIdx_le t i
      obtain ⟨t', s', th, m, r, g1, g2, g3, g4, g5, g6, g7, g8, _⟩ := fit_both n o hn0 ho0 (t.eraseIdx i) (t[i] :: s) (by simp only [List.length_cons]; omega)
      have hp0 : (t.eraseIdx i ++ t[i] :: s).Perm (t ++ s) := by
        refine List.perm_middle.trans ?_
        exact (cons_erase_perm t i hi).append_right s
      have hp := (fit_perm g3 g4).trans hp0
      have hone := g8 [t[i]] ⟨s, rfl⟩ (one_fits (hpt.1 _ (List.getElem_mem hi)) ho)
      obtain ⟨q, hq⟩ := hone
      refine ⟨t', s', t[i].f1, true, r, Ev.bind hat0 ?_, Ev.bind (Ev.now _) ?_, pre_good hn ho (pre_perm hp hpre) g6 g7, hp, .inl ⟨rfl, t[i], q, hq.symm, ki, rfl, List.mem_append_left _ (List.getElem_mem hi)⟩⟩
      · simp only [if_neg (show ¬ fndE a s 0 ≥ 0 by omega)]
        refine Ev.bind at' ?_
        simp only [f, if_neg (show ¬ (i : Int) < 0 by omega), if_pos (show 0 ≤ (i : Int) by omega), if_pos (show (i : Int) < (t.length : Int) by omega), Without_eq t i hi (by omega), Option.bind_some, rd45j t i hi, ahead_spec s _ _ (show s.length ≤ 1048576 by omega)]
        exact Ev.bind g2 (Ev.now _)
      · simp only [takeE, if_neg (show ¬ 0 ≤ fndE a s 0 by omega), f, if_pos (show 0 ≤ (i : Int) by omega), Int.toNat_natCast, if_true, rd45j t i hi, ahead_impl s _ _ (show s.length ≤ 1048576 by omega), Option.bind_some]
        exact Ev.bind g1 (Ev.now _)
  · have hle := List.length_eraseIdx_le s j
    have hcp := cons_erase_perm s j hj
    have hlen : (⟨s[j].f0, s[j].f1⟩ :: s.eraseIdx j : List S45).length = s.length := hcp.length_eq
    have hfs : fitsP (s[j] :: s.eraseIdx j) o := fitsP_perm hps.1 hcp hps.2.2
    obtain ⟨b, f1, f2⟩ := fits_ev (⟨s[j].f0, s[j].f1⟩ :: s.eraseIdx j) o (by omega)
    have hb : b = true := f2.2 hfs
    subst hb
    obtain ⟨b', f3, f4⟩ := fits_ev t n (by omega)
    have hb' : b' = true := f4.2 hpt.2.2
    subst hb'
    have hset : Ev (fun k => settleE.f k n o t (⟨s[j].f0, s[j].f1⟩ :: s.eraseIdx j)) (t, ⟨s[j].f0, s[j].f1⟩ :: s.eraseIdx j, []) := by
      unfold settleE.f
      refine Ev.bind (a := (t, ⟨s[j].f0, s[j].f1⟩ :: s.eraseIdx j)) (Ev.step (fun k => by simp only [settleE.l0] <;> rfl) (Ev.bind f1 ?_)) (Ev.bind (a := (t, [])) (Ev.step (fun k => by simp only [settleE.l1] <;> rfl) (Ev.bind f3 ?_)) (Ev.now _))
      · simp only [if_true]; exact Ev.now _
      · simp only [if_true]; exact Ev.now _
    have hp : (t ++ (s[j] :: s.eraseIdx j) ++ []).Perm (t ++ s) := by rw [List.append_nil]; exact hcp.append_left t
    refine ⟨t, s[j] :: s.eraseIdx j, s[j].f1, true, [], Ev.bind hat0 ?_, Ev.bind (Ev.now _) ?_, pre_good hn ho (pre_perm hp hpre) hpt.2.2 hfs, hp, .inl ⟨rfl, s[j], _, rfl, kj, rfl, List.mem_append_right _ (List.getElem_mem hj)⟩⟩
    · simp only [e, if_pos (show (j : Int) ≥ 0 by omega), if_pos (show 0 ≤ (j : Int) by omega), if_pos (show (j : Int) < (s.length : Int) by omega), Without_eq s j hj (show s.length ≤ 1048576 by omega), Option.bind_some, rd45j s j hj, ahead_spec (s.eraseIdx j) _ _ (show (s.eraseIdx j).length ≤ 1048576 by omega)]
      exact Ev.now _
    · simp only [takeE, e, if_pos (show 0 ≤ (j : Int) by omega), Int.toNat_natCast, if_true, rd45j s j hj, ahead_impl (s.eraseIdx j) _ _ (show (s.eraseIdx j).length ≤ 1048576 by omega), Option.bind_some]
      exact Ev.bind hset (Ev.now _)
/-- Putting: both alike, the good state stays good; what is there afterwards. -/
theorem Put_both (n o : Int) (t s : List S45) (a b : ByteArray) (hg : GoodP n o t s) (he : entryB ⟨a, b⟩ = true) :
    ∃ t' s' th, Ev (fun k => spec_l12Put.f k n o t s a b) (n, o, t', s', th) ∧ Ev (fun k => impl_Segmented_put.f k n o t s a b) (n, o, t', s', th) ∧ GoodP n o t' s' ∧ ((t' ++ s' ++ th).map keyE).Nodup ∧ (∀ x ∈ t' ++ s' ++ th, x = ⟨a, b⟩ ∨ x ∈ t ++ s) ∧
      (t' ++ s' ++ th).length = (t ++ s).length + (if a.toList ∈ (t ++ s).map keyE then 0 else 1) ∧ (⟨a, b⟩ : S45) ∈ t' ++ s' ∧ (a.toList ∉ s.map keyE → s' = s) := by
  have hpre := good_pre hg
  obtain ⟨hn, ho, hpt, hps, hd⟩ := hg
  have hn0 : 0 ≤ n := by have := of_decide_eq_true hn; omega
  have ho0 : 0 ≤ o := by have := of_decide_eq_true ho; omega
  have lt : t.length ≤ 60 := by have := hpt.2.2.1; omega
  have ls : s.length ≤ 60 := by have := hps.2.2.1; omega
  have hat0 := At_ev s a (by omega)
  have at' := At_ev t a (by omega)
  have fin : ∀ (t0 s0 : List S45) (t' s' th m r : List S45), m ++ t0 = t' ++ r → s0 = s' ++ m → th = r.reverse → ((t0 ++ s0).map keyE).Nodup → (∀ x ∈ t0 ++ s0, x = ⟨a, b⟩ ∨ x ∈ t ++ s) → fitsP t' n → fitsP s' o →
      GoodP n o t' s' ∧ ((t' ++ s' ++ th).map keyE).Nodup ∧ (∀ x ∈ t' ++ s' ++ th, x = ⟨a, b⟩ ∨ x ∈ t ++ s) ∧ (t' ++ s' ++ th).length = (t0 ++ s0).length := by
    intro t0 s0 t' s' th m r h1 h2 h3 h4 h5 h6 h7
    have hp := fit_perm h1 h2
    have hp' : (t' ++ s' ++ th).Perm (t0 ++ s0) := by rw [h3]; exact ((List.reverse_perm r).append_left _).trans hp
    refine ⟨pre_good hn ho (pre_perm hp ⟨fun x hx => ?_, h4⟩) h6 h7, (hp'.map keyE).nodup_iff.2 h4, fun x hx => h5 x (hp'.mem_iff.1 hx), hp'.length_eq⟩
    rcases h5 x hx with e | e
    · rw [e]; exact he
    · exact hpre.1 x e
  have hown : ∀ t' s' : List S45, GoodP n o t' s' → impl_Segmented_own.f n o t' s' = some (n, o, t', s') := fun t' s' h => by
    have h1 := h.2.2.1.2.2.1
    have h2 := h.2.2.2.1.2.2.1
    exact Own_impl n o t' s' (by omega) (by omega)
  unfold spec_l12Put.f impl_Segmented_put.f
  rw [Own_impl n o t s (by omega) (by omega)]
  rcases fndE_cases a s with ⟨e, ne⟩ | ⟨j, hj, e, kj⟩
  · have stay : ∀ {t0 s' m : List S45}, s = s' ++ m → (∀ p, p <+: s → fitsP p o → p <+: s') → m = [] ∧ s' = s := by
      intro t0 s' m h1 h2
      have h3 := (h2 s (List.prefix_refl _) hps.2.2).length_le
      have h4 := congrArg List.length h1
      rw [List.length_append] at h4
      have hm : m = [] := List.eq_nil_of_length_eq_zero (by omega)
      subst hm
      exact ⟨rfl, by rw [h1, List.append_nil]⟩
    rcases fndE_cases a t with ⟨f, nf⟩ | ⟨i, hi, f, ki⟩
    · obtain ⟨t', s', th, m, r, g1, g2, g3, g4, g5, g6, g7, g8, g9⟩ := fit_both n o hn0 ho0 (⟨a, b⟩ :: t) s (by simp only [List.length_cons]; omega)
      obtain ⟨hm, hs'⟩ := stay (t0 := t) g4 g8
      have nk : a.toList ∉ (t ++ s).map keyE := by rw [List.map_append, List.mem_append]; exact fun h => h.elim nf ne
      obtain ⟨k1, k2, k3, k4⟩ := fin (⟨a, b⟩ :: t) s t' s' th m r g3 g4 g5 (by
        rw [List.cons_append, List.map_cons, List.nodup_cons]; exact ⟨nk, hpre.2⟩) (fun x hx => by
        rw [List.cons_append, List.mem_cons] at hx; exact hx) g6 g7
      refine ⟨t', s', th, Ev.bind hat0 ?_, Ev.bind (Ev.now _) ?_, k1, k2, k3, ?_, ?_, fun _ => hs'⟩
      · simp only [if_neg (show ¬ fndE a s 0 ≥ 0 by omega)]
        refine Ev.bind at' ?_
        simp only [if_neg (show ¬ fndE a t 0 ≥ 0 by omega), ahead_spec t _ _ (show t.length ≤ 1048576 by omega), Option.bind_some]
        exact Ev.bind g2 (Ev.now _)
      · simp only [takeE, if_neg (show ¬ 0 ≤ fndE a s 0 by omega), if_neg (show ¬ 0 ≤ fndE a t 0 by omega), Bool.false_eq_true, if_false, ahead_impl t _ _ (show t.length ≤ 1048576 by omega), Option.bind_some]
        refine Ev.bind g1 ?_
        simp only [hown t' s' k1, Option.bind_some]
        exact Ev.now _
      · rw [k4, if_neg nk]; simp only [List.cons_append, List.length_cons]
      · obtain ⟨q, hq⟩ := g9 [⟨a, b⟩] (by rw [hm]; exact ⟨t, rfl⟩) (one_fits he hn)
        rw [← hq]; simp
    · have hle := List.length_eraseIdx_le t i
      have hcp := cons_erase_perm t i hi
      obtain ⟨t', s', th, m, r, g1, g2, g3, g4, g5, g6, g7, g8, g9⟩ := fit_both n o hn0 ho0 (⟨a, b⟩ :: t.eraseIdx i) s (by simp only [List.length_cons]; omega)
      obtain ⟨hm, hs'⟩ := stay (t0 := t) g4 g8
      have hk : a.toList ∈ (t ++ s).map keyE := by rw [← ki]; exact List.mem_map_of_mem (List.mem_append_left _ (List.getElem_mem hi))
      obtain ⟨k1, k2, k3, k4⟩ := fin (⟨a, b⟩ :: t.eraseIdx i) s t' s' th m r g3 g4 g5 (by
        have h1 : ((⟨a, b⟩ :: t.eraseIdx i ++ s : List S45).map keyE) = ((t[i] :: t.eraseIdx i ++ s).map keyE) := by
          simp only [List.cons_append, List.map_cons]; rw [ki]; rfl
        rw [h1]; exact ((hcp.append_right s).map keyE).nodup_iff.2 hpre.2) (fun x hx => by
        rw [List.cons_append, List.mem_cons] at hx
        exact hx.imp id (fun h => (List.mem_append.1 h).elim (fun h => List.mem_append_left _ (List.mem_of_mem_eraseIdx h)) (List.mem_append_right _))) g6 g7
      refine ⟨t', s', th, Ev.bind hat0 ?_, Ev.bind (Ev.now _) ?_, k1, k2, k3, ?_, ?_, fun _ => hs'⟩
      · simp only [if_neg (show ¬ fndE a s 0 ≥ 0 by omega)]
        refine Ev.bind at' ?_
        simp only [f, if_pos (show (i : Int) ≥ 0 by omega), Without_eq t i hi (show t.length ≤ 1048576 by omega), Option.bind_some, ahead_spec (t.eraseIdx i) _ _ (show (t.eraseIdx i).length ≤ 1048576 by omega)]
        exact Ev.bind g2 (Ev.now _)
      · simp only [takeE, if_neg (show ¬ 0 ≤ fndE a s 0 by omega), f, if_pos (show 0 ≤ (i : Int) by omega), Int.toNat_natCast, Bool.false_eq_true, if_false, ahead_impl (t.eraseIdx i) _ _ (show (t.eraseIdx i).length ≤ 1048576 by omega), Option.bind_some]
        refine Ev.bind g1 ?_
        simp only [hown t' s' k1, Option.bind_some]
        exact Ev.now _
      · have := hcp.length_eq
        rw [k4, if_pos hk]; simp only [List.cons_append, List.length_cons, List.length_append] at this ⊢; omega
      · obtain ⟨q, hq⟩ := g9 [⟨a, b⟩] (by rw [hm]; exact ⟨_, rfl⟩) (one_fits he hn)
        rw [← hq]; simp
  · have hle := List.length_eraseIdx_le s j
    have hcp := cons_erase_perm s j hj
    obtain ⟨t', s', th, m, r, g1, g2, g3, g4, g5, g6, g7, g8, g9⟩ := fit_both n o hn0 ho0 t (⟨a, b⟩ :: s.eraseIdx j) (by simp only [List.length_cons]; omega)
    have hk : a.toList ∈ s.map keyE := by rw [← kj]; exact List.mem_map_of_mem (List.getElem_mem hj)
    have hk' : a.toList ∈ (t ++ s).map keyE := by rw [List.map_append]; exact List.mem_append_right _ hk
    obtain ⟨k1, k2, k3, k4⟩ := fin t (⟨a, b⟩ :: s.eraseIdx j) t' s' th m r g3 g4 g5 (by
      have h1 : ((t ++ ⟨a, b⟩ :: s.eraseIdx j : List S45).map keyE) = ((t ++ s[j] :: s.eraseIdx j).map keyE) := by
        simp only [List.map_append, List.map_cons]; rw [kj]; rfl
      rw [h1]; exact ((hcp.append_left t).map keyE).nodup_iff.2 hpre.2) (fun x hx => by
      rw [List.mem_append, List.mem_cons] at hx
      rcases hx with h | h | h
      · exact .inr (List.mem_append_left _ h)
      · exact .inl h
      · exact .inr (List.mem_append_right _ (List.mem_of_mem_eraseIdx h))) g6 g7
    refine ⟨t', s', th, Ev.bind hat0 ?_, Ev.bind (Ev.now _) ?_, k1, k2, k3, ?_, ?_, fun h => absurd hk h⟩
    · simp only [e, if_pos (show (j : Int) ≥ 0 by omega), Without_eq s j hj (show s.length ≤ 1048576 by omega), Option.bind_some, ahead_spec (s.eraseIdx j) _ _ (show (s.eraseIdx j).length ≤ 1048576 by omega)]
      exact Ev.bind g2 (Ev.now _)
    · simp only [takeE, e, if_pos (show 0 ≤ (j : Int) by omega), Int.toNat_natCast, if_true, ahead_impl (s.eraseIdx j) _ _ (show (s.eraseIdx j).length ≤ 1048576 by omega), Option.bind_some]
      refine Ev.bind g1 ?_
      simp only [hown t' s' k1, Option.bind_some]
      exact Ev.now _
    · have := hcp.length_eq
      rw [k4, if_pos hk']; simp only [List.length_cons, List.length_append] at this ⊢; omega
    · obtain ⟨q, hq⟩ := g8 [⟨a, b⟩] ⟨_, rfl⟩ (one_fits he ho)
      rw [← hq]; simp
theorem Good_both2 (n o : Int) (t s : List S45) (ht : t.length ≤ 1048576) (hs : s.length ≤ 1048576) (hz : ∀ x ∈ t ++ s, x.f0.size ≤ 1048576) :
    ∃ b, Ev (fun k => spec_GoodSegmented.f k n o t s) b ∧ Ev (fun k => impl_GoodSegmented.f k n o t s) b ∧ (b = true → GoodP n o t s) := by
  obtain ⟨b, h1, h2⟩ := Good_l n o t s ht hs s.length 0 (by omega) (by simp)
  obtain ⟨b', h3, h4⟩ := Good_impl n o t s ht hs hz
  have e : b = b' := Bool.eq_iff_iff.2 (h2.trans h4.symm)
  subst e
  exact ⟨b, h1, h3, h2.1⟩
theorem Good_now {n o : Int} {t s : List S45} (h : GoodP n o t s) : Ev (fun k => impl_GoodSegmented.f k n o t s) true := by
  have hpre := good_pre h
  have h1 := h.2.2.1.2.2.1
  have h2 := h.2.2.2.1.2.2.1
  obtain ⟨b', h3, h4⟩ := Good_impl n o t s (by omega) (by omega) (fun x hx => by have := of_decide_eq_true (hpre.1 x hx); omega)
  rw [h4.2 h] at h3
  exact h3

def Kok (k : ByteArray) : Prop := k.size ≤ 100
theorem of_ok {l : List Int} (hl : Byt l) (a s : Int) (x : List ByteArray) (hx : 1 < x.length) (h0 : 0 ≤ a) (h1 : a ≤ 4611686018427387900) :
    ∃ r a' s', spec_l1Cur_of.f l a s x = some (r, a', s') ∧ r ∈ x ∧ a ≤ a' ∧ a' ≤ a + 2 := by
  unfold spec_l1Cur_of.f
  obtain ⟨r, a', s', e, g0, g1, g⟩ := pick_ok hl a s (x.length : Int) h0 h1
  have hr : r.toNat < x.length := by omega
  rw [e]
  simp only [Option.bind_some]
  rw [if_pos g0, if_pos (by omega)]
  refine ⟨_, _, _, rfl, ?_, g⟩
  have : rdOf ByteArray.empty x r = x[r.toNat] := getD_at hr _
  rw [this]
  exact List.getElem_mem hr
theorem entry_ok {l : List Int} (hl : Byt l) (a s : Int) (h0 : 0 ≤ a) (h1 : a ≤ 4611686018427380000) :
    ∃ key val a' s', Ev (fun k => spec_l1Cur_entry.f k l a s) (key, val, a', s') ∧ Kok key ∧ a ≤ a' ∧ a' ≤ a + 20 := by
  have go : ∀ (key val : ByteArray) (a s : Int), 0 ≤ a → a ≤ 4611686018427387000 → Kok key → ∃ key' val' a' s', Ev (fun k => spec_l1Cur_entry.j0 k l a s key val) (key', val', a', s') ∧ Kok key' ∧ a ≤ a' ∧ a' ≤ a + 6 := by
    intro key val a s h0 h1 hk
    obtain ⟨r, a1, s1, e1, p1, q1, u1, v1⟩ := pick_ok hl a s 60 h0 (by omega)
    by_cases c0 : r = 0
    · obtain ⟨t, a2, s2, e2, m2, u2, v2⟩ := of_ok hl a1 s1 (([(⟨#[]⟩ : ByteArray), (⟨#[49, 50, 51, 52, 53, 54, 55, 56, 57, 48, 49, 50, 51, 52, 53, 54, 55, 56, 57, 48, 49]⟩ : ByteArray)] : List ByteArray)) (by simp) (by omega) (by omega)
      refine ⟨t, val, a2, s2, Ev.step (f := fun _ => some (t, val, a2, s2)) (fun k => ?_) (Ev.now _), ?_, by omega, by omega⟩
      · simp only [spec_l1Cur_entry.j0]
        rw [e1]; simp only [Option.bind_some]; rw [if_pos c0, e2]; rfl
      · simp only [List.mem_cons, List.not_mem_nil, or_false] at m2
        rcases m2 with rfl | rfl <;> (unfold Kok; decide)
    · by_cases c1 : r = 1
      · obtain ⟨r2, a2, s2, e2, p2, q2, u2, v2⟩ := pick_ok hl a1 s1 2 (by omega) (by omega)
        have ew : wrap64 (60 + r2) = 60 + r2 := w64 (by omega) (by omega)
        refine ⟨key, strOfNums (List.replicate (60 + r2 : Int).toNat 0), a2, s2, Ev.step (f := fun _ => some (key, strOfNums (List.replicate (60 + r2 : Int).toNat 0), a2, s2)) (fun k => ?_) (Ev.now _), hk, by omega, by omega⟩
        simp only [spec_l1Cur_entry.j0]
        rw [e1]; simp only [Option.bind_some]; rw [if_neg c0, if_pos c1, e2]; simp only [Option.bind_some, ew]
        rw [if_pos (by omega), if_pos (by omega)]
      · refine ⟨key, val, a1, s1, Ev.step (f := fun _ => some (key, val, a1, s1)) (fun k => ?_) (Ev.now _), hk, by omega, by omega⟩
        simp only [spec_l1Cur_entry.j0]
        rw [e1]; simp only [Option.bind_some]; rw [if_neg c0, if_neg c1]
  unfold spec_l1Cur_entry.f
  obtain ⟨key, a1, s1, e1, m1, u1, v1⟩ := of_ok hl a s (([(⟨#[97]⟩ : ByteArray), (⟨#[98]⟩ : ByteArray), (⟨#[99]⟩ : ByteArray), (⟨#[100]⟩ : ByteArray), (⟨#[101]⟩ : ByteArray), (⟨#[102]⟩ : ByteArray), (⟨#[103]⟩ : ByteArray)] : List ByteArray)) (by simp) (by omega) (by omega)
  have hk : Kok key := by
    simp only [List.mem_cons, List.not_mem_nil, or_false] at m1
    rcases m1 with rfl | rfl | rfl | rfl | rfl | rfl | rfl <;> (unfold Kok; decide)
  obtain ⟨r2, a2, s2, e2, p2, q2, u2, v2⟩ := pick_ok hl a1 s1 60 (by omega) (by omega)
  obtain ⟨b, a3, s3, e3, u3, v3⟩ := one_ok hl a2 s2 3 (by omega) (by omega)
  have ew : wrap64 (1 + r2) = 1 + r2 := w64 (by omega) (by omega)
  simp only [e1, e2, e3, Option.bind_some, ew, if_pos (show 0 ≤ 1 + r2 by omega), if_pos (show (1 + r2).toNat ≤ 281474976710656 by omega)]
  by_cases cb : b = true
  · obtain ⟨v, a4, s4, e4, _, u4, v4⟩ := of_ok hl a3 s3 (([(⟨#[118]⟩ : ByteArray), (⟨#[119]⟩ : ByteArray), (⟨#[108, 111, 110, 103, 32, 118, 97, 108, 117, 101]⟩ : ByteArray)] : List ByteArray)) (by simp) (by omega) (by omega)
    obtain ⟨key', val', a', s', g, gk, g1, g2⟩ := go key v a4 s4 (by omega) (by omega) hk
    refine ⟨key', val', a', s', Ev.congr (fun k => ?_) g, gk, by omega, by omega⟩
    rw [if_pos cb, e4]; rfl
  · obtain ⟨key', val', a', s', g, gk, g1, g2⟩ := go key (strOfNums (List.replicate (1 + r2 : Int).toNat 0)) a3 s3 (by omega) (by omega) hk
    refine ⟨key', val', a', s', Ev.congr (fun k => ?_) g, gk, by omega, by omega⟩
    rw [if_neg cb]
theorem entries_l {l : List Int} (hl : Byt l) (d : Nat) : ∀ (x : List S45) (a s : Int), x.length + d ≤ 300 → 0 ≤ a → a ≤ 1000 + 40 * x.length → (∀ e ∈ x, Kok e.f0) →
    ∃ r a' s', Ev (fun k => spec_l1Cur_entries.l0 k x (d : Int) l a s) (r, a', s') ∧ r.length ≤ 300 ∧ 0 ≤ a' ∧ a' ≤ 20000 ∧ ∀ e ∈ r, Kok e.f0 := by
  induction d with
  | zero =>
    intro x a s hx h0 h1 hk
    refine ⟨x, a, s, Ev.step (f := fun _ => some (x, a, s)) (fun k => ?_) (Ev.now _), by omega, by omega, by omega, hk⟩
    simp only [spec_l1Cur_entries.l0]; rw [if_neg (by omega)]
  | succ d ih =>
    intro x a s hx h0 h1 hk
    have ew : wrap64 (((d + 1 : Nat) : Int) - 1) = (d : Int) := by rw [w64 (by omega) (by omega)]; omega
    obtain ⟨key, val, a1, s1, g, gk, u1, v1⟩ := entry_ok hl a s h0 (by omega)
    obtain ⟨b, a2, s2, e2, u2, v2⟩ := one_ok hl a1 s1 2 (by omega) (by omega)
    have hstep : ∀ k, spec_l1Cur_entries.l0 (k + 1) x ((d + 1 : Nat) : Int) l a s = (spec_l1Cur_entry.f k l a s).bind fun bt162 => ((spec_l1Cur_one.f l bt162.2.2.1 bt162.2.2.2 2).bind fun bt167 => (if bt167.1 = true then (if x.length < 4398046511104 then (spec_l1Cur_entries.l0 k (x ++ [(⟨bt162.1, (⟨#[]⟩ : ByteArray)⟩ : S45)]) (d : Int) l bt167.2.1 bt167.2.2) else (none)) else (if x.length < 4398046511104 then (spec_l1Cur_entries.l0 k (x ++ [(⟨bt162.1, bt162.2.1⟩ : S45)]) (d : Int) l bt167.2.1 bt167.2.2) else (none)))) := fun k => by
      simp only [spec_l1Cur_entries.l0]; rw [if_pos (by omega), ew]
    have hk' : ∀ v : ByteArray, ∀ e ∈ x ++ [(⟨key, v⟩ : S45)], Kok e.f0 := fun v e he => by
      rw [List.mem_append, List.mem_singleton] at he
      rcases he with h | h
      · exact hk e h
      · rw [h]; exact gk
    have el : ∀ y : S45, ((x ++ [y]).length : Int) = x.length + 1 := fun y => by simp
    by_cases cb : b = true
    · obtain ⟨r, a', s', k1, k2⟩ := ih (x ++ [⟨key, ⟨#[]⟩⟩]) a2 s2 (by simp; omega) (by omega) (by rw [el]; omega) (hk' _)
      refine ⟨r, a', s', Ev.step hstep (Ev.bind g ?_), k2⟩
      simp only [e2, Option.bind_some, if_pos cb, if_pos (show x.length < 4398046511104 by omega)]
      exact k1
    · obtain ⟨r, a', s', k1, k2⟩ := ih (x ++ [⟨key, val⟩]) a2 s2 (by simp; omega) (by omega) (by rw [el]; omega) (hk' _)
      refine ⟨r, a', s', Ev.step hstep (Ev.bind g ?_), k2⟩
      simp only [e2, Option.bind_some, if_neg cb, if_pos (show x.length < 4398046511104 by omega)]
      exact k1
theorem entries_ok {l : List Int} (hl : Byt l) (a s : Int) (h0 : 0 ≤ a) (h1 : a ≤ 900) :
    ∃ r a' s', Ev (fun k => spec_l1Cur_entries.f k l a s) (r, a', s') ∧ r.length ≤ 300 ∧ 0 ≤ a' ∧ a' ≤ 20000 ∧ ∀ e ∈ r, Kok e.f0 := by
  unfold spec_l1Cur_entries.f
  obtain ⟨r1, a1, s1, e1, p1, q1, u1, v1⟩ := pick_ok hl a s 24 h0 (by omega)
  obtain ⟨b, a2, s2, e2, u2, v2⟩ := one_ok hl a1 s1 30 (by omega) (by omega)
  simp only [e1, e2, Option.bind_some]
  have go : ∀ (n : Nat) (a s : Int), n ≤ 300 → 0 ≤ a → a ≤ 990 → ∃ r a' s', Ev (fun k => spec_l1Cur_entries.j0 k [] (n : Int) l a s) (r, a', s') ∧ r.length ≤ 300 ∧ 0 ≤ a' ∧ a' ≤ 20000 ∧ ∀ e ∈ r, Kok e.f0 := by
    intro n a s hn h0 h1
    obtain ⟨r, a', s', g, g2⟩ := entries_l hl n [] a s (by simpa using hn) h0 (by simp; omega) (by simp)
    exact ⟨r, a', s', Ev.step (fun k => by simp only [spec_l1Cur_entries.j0]) g, g2⟩
  by_cases cb : b = true
  · obtain ⟨r3, a3, s3, e3, p3, q3, u3, v3⟩ := pick_ok hl a2 s2 3 (by omega) (by omega)
    obtain ⟨r, a', s', g, g2⟩ := go (199 + r3).toNat a3 s3 (by omega) (by omega) (by omega)
    refine ⟨r, a', s', Ev.congr (fun k => ?_) g, g2⟩
    rw [if_pos cb, e3]
    simp only [Option.bind_some]
    rw [w64 (by omega) (by omega), show (((199 + r3).toNat : Nat) : Int) = 199 + r3 from by omega]
  · obtain ⟨r, a', s', g, g2⟩ := go r1.toNat a2 s2 (by omega) (by omega) (by omega)
    refine ⟨r, a', s', Ev.congr (fun k => ?_) g, g2⟩
    rw [if_neg cb, show ((r1.toNat : Nat) : Int) = r1 from by omega]

theorem spec_New (a b : Int) : spec_NewSegmented.f a b = some (if roomB a = true ∧ roomB b = true then (a, b, [], [], true) else (0, 0, [], [], false)) := by
  unfold spec_NewSegmented.f
  rw [spec_room, spec_room]
  simp only [Option.bind_some]
  by_cases c1 : roomB a = true
  · by_cases c2 : roomB b = true
    · rw [if_pos c1, if_pos c2, if_pos ⟨c1, c2⟩]
    · rw [if_pos c1, if_neg c2, if_neg (fun h => c2 h.2)]
  · rw [if_neg c1, if_neg (fun h => c1 h.1)]

theorem sameEntries_l (l : List S45) (hn : l.length ≤ 1048576) (d : Nat) : ∀ (j : Nat), j + d = l.length → Ev (fun k => laws_sameEntries.l0 k l l (l.length : Int) (j : Int)) true := by
  induction d with
  | zero =>
    intro j hj
    refine Ev.step (f := fun _ => some true) (fun k => ?_) (Ev.now _)
    simp only [laws_sameEntries.l0]; rw [if_neg (by omega)]
  | succ d ih =>
    intro j hj
    refine Ev.step (fun k => ?_) (ih (j + 1) (by omega))
    simp only [laws_sameEntries.l0]
    rw [if_pos (by omega), if_pos (by omega), if_pos (by omega), if_pos (by omega), if_neg (by simp), wj (n := l.length) (by omega) (by omega)]
theorem sameEntries_ev (l : List S45) (hn : l.length ≤ 1048576) : Ev (fun k => laws_sameEntries.f k l l) true := by
  refine Ev.congr (fun k => ?_) (sameEntries_l l hn l.length 0 (by omega))
  simp only [laws_sameEntries.f]; rw [if_pos trivial]; rfl
theorem sameCaches_ev (n o : Int) (t s : List S45) (ht : t.length ≤ 1048576) (hs : s.length ≤ 1048576) : Ev (fun k => laws_sameCaches.f k n o t s n o t s) true := by
  unfold laws_sameCaches.f
  simp only [if_true]
  refine Ev.bind (sameEntries_ev t ht) ?_
  simp only [if_true]
  exact Ev.bind (sameEntries_ev s hs) (Ev.now _)

def Bnd (m : Nat) (t s : List S45) : Prop := t.length ≤ m ∧ s.length ≤ m ∧ ∀ x ∈ t ++ s, x.f0.size ≤ 1048576
theorem Good_Bnd {n o : Int} {t s : List S45} (h : GoodP n o t s) : Bnd 60 t s := by
  have hpre := good_pre h
  have h1 := h.2.2.1.2.2.1
  have h2 := h.2.2.2.1.2.2.1
  exact ⟨by omega, by omega, fun x hx => by have := of_decide_eq_true (hpre.1 x hx); omega⟩
theorem PlayS_l (n o : Int) (l : List S45) (hl : l.length ≤ 200) (d : Nat) : ∀ (j : Nat) (t s : List S45) (told : List ByteArray), j + d = l.length → told.length ≤ j → GoodP n o t s →
    ∃ n' o' t' s' told' b, Ev (fun k => spec_PlaySegmented.l0 k told l (l.length : Int) (j : Int) n o t s) (n', o', t', s', told', b) ∧ Bnd 60 t' s' := by
  induction d with
  | zero =>
    intro j t s told hj ht hg
    have hb := Good_Bnd hg
    refine ⟨n, o, t, s, told, true, Ev.step (f := fun _ => some (n, o, t, s, told, true)) (fun k => ?_) (Ev.now _), hb⟩
    simp only [spec_PlaySegmented.l0]; rw [if_neg (by omega), Own_spec n o t s (by have := hb.1; omega) (by have := hb.2.1; omega)]; rfl
  | succ d ih =>
    intro j t s told hj ht hg
    have hlt : j < l.length := by omega
    by_cases hej : entryB l[j] = true
    · by_cases c : l[j].f1.toList = ([] : List UInt8)
      · have hs : ∀ k, spec_PlaySegmented.l0 (k + 1) told l (l.length : Int) (j : Int) n o t s = (spec_l12Get.f k n o t s l[j].f0).bind fun bt => if told.length < 8796093022208 then spec_PlaySegmented.l0 k (told ++ [bt.2.2.2.2.1]) l (l.length : Int) ((j + 1 : Nat) : Int) bt.1 bt.2.1 bt.2.2.1 bt.2.2.2.1 else none := fun k => by
          simp only [spec_PlaySegmented.l0]
          rw [if_pos (by omega), if_pos (by omega), if_pos (by omega), rd45j l j hlt, spec_entry, hej, if_pos c, wj (n := l.length) hlt (by omega)]
          rfl
        obtain ⟨t1, s1, v, b, r, g1, g2, g3, g4, _⟩ := Get_both n o t s l[j].f0 hg
        obtain ⟨n', o', t', s', told', b', k1, k2⟩ := ih (j + 1) t1 s1 (told ++ [v]) (by omega) (by simp; omega) g3
        refine ⟨n', o', t', s', told', b', Ev.step hs (Ev.bind g1 ?_), k2⟩
        simp only [if_pos (show told.length < 8796093022208 by omega)]; exact k1
      · have hs : ∀ k, spec_PlaySegmented.l0 (k + 1) told l (l.length : Int) (j : Int) n o t s = (spec_l12Put.f k n o t s l[j].f0 l[j].f1).bind fun bt => spec_PlaySegmented.l0 k told l (l.length : Int) ((j + 1 : Nat) : Int) bt.1 bt.2.1 bt.2.2.1 bt.2.2.2.1 := fun k => by
          simp only [spec_PlaySegmented.l0]
          rw [if_pos (by omega), if_pos (by omega), if_pos (by omega), rd45j l j hlt, spec_entry, hej, if_neg c, wj (n := l.length) hlt (by omega)]
          rfl
        obtain ⟨t1, s1, th, g1, g2, g3, _⟩ := Put_both n o t s l[j].f0 l[j].f1 hg hej
        obtain ⟨n', o', t', s', told', b', k1, k2⟩ := ih (j + 1) t1 s1 told (by omega) (by omega) g3
        exact ⟨n', o', t', s', told', b', Ev.step hs (Ev.bind g1 k1), k2⟩
    · refine ⟨0, 0, [], [], [], false, Ev.step (f := fun _ => some (0, 0, [], [], [], false)) (fun k => ?_) (Ev.now _), by simp [Bnd]⟩
      simp only [spec_PlaySegmented.l0]
      rw [if_pos (by omega), if_pos (by omega), if_pos (by omega), rd45j l j hlt, spec_entry, Bool.eq_false_iff.2 hej]
      rfl
theorem good_nil {n o : Int} (hn : roomB n = true) (ho : roomB o = true) : GoodP n o [] [] := by
  have h1 := of_decide_eq_true hn
  have h2 := of_decide_eq_true ho
  exact ⟨hn, ho, ⟨by simp, by simp, by simp, by show (0 : Int) ≤ n; omega⟩, ⟨by simp, by simp, by simp, by show (0 : Int) ≤ o; omega⟩, by simp⟩
theorem PlayS (a b : Int) (l : List S45) : ∃ n' o' t' s' told' r, Ev (fun k => spec_PlaySegmented.f k a b l) (n', o', t', s', told', r) ∧ Bnd 60 t' s' := by
  have bad : ∀ n o t s, ∃ n' o' t' s' told' r, Ev (fun k => spec_PlaySegmented.j0 k l true n o t s) (n', o', t', s', told', r) ∧ Bnd 60 t' s' := fun n o t s =>
    ⟨0, 0, [], [], [], false, Ev.step (f := fun _ => some (0, 0, [], [], [], false)) (fun k => by simp [spec_PlaySegmented.j0]) (Ev.now _), by simp [Bnd]⟩
  unfold spec_PlaySegmented.f
  rw [spec_New]
  by_cases c : roomB a = true ∧ roomB b = true
  · rw [if_pos c]
    simp only [Option.bind_some, if_true]
    by_cases h2 : (l.length : Int) > 200
    · rw [decide_eq_true h2]; exact bad _ _ _ _
    · rw [decide_eq_false h2]
      obtain ⟨n', o', t', s', told', r, g, g2⟩ := PlayS_l a b l (by omega) l.length 0 [] [] [] (by omega) (by simp) (good_nil c.1 c.2)
      exact ⟨n', o', t', s', told', r, Ev.step (fun k => by simp only [spec_PlaySegmented.j0]; rw [if_neg (by simp)]; rfl) g, g2⟩
  · rw [if_neg c]
    simp only [Option.bind_some, Bool.false_eq_true, if_false]
    exact bad _ _ _ _
theorem seg_j1 {l : List Int} (hl : Byt l) (a s : Int) (n o : Int) (t q : List S45) (h0 : 0 ≤ a) (h1 : a ≤ 100000) (hb : Bnd 60 t q) :
    ∃ n' o' t' q' a' s', Ev (fun k => spec_l1Cur_segmented.j1 k l a s n o t q) (n', o', t', q', a', s') ∧ Bnd 61 t' q' ∧ 0 ≤ a' ∧ a' ≤ 200000 := by
  obtain ⟨r, a1, s1, e1, p1, q1, u1, v1⟩ := pick_ok hl a s 40 h0 (by omega)
  by_cases c0 : r = 0
  · obtain ⟨x, a2, s2, e2, _, u2, v2⟩ := among_ok hl a1 s1 [99, 100, 2000, 2001] (by simp) (by omega) (by omega)
    refine ⟨n, x, t, q, a2, s2, Ev.step (f := fun _ => some (n, x, t, q, a2, s2)) (fun k => ?_) (Ev.now _), ⟨by have := hb.1; omega, by have := hb.2.1; omega, hb.2.2⟩, by omega, by omega⟩
    simp only [spec_l1Cur_segmented.j1, e1, Option.bind_some]
    rw [if_pos c0, e2]; rfl
  · by_cases c1 : r = 1
    · obtain ⟨key, val, a2, s2, g, gk, u2, v2⟩ := entry_ok hl a1 s1 (by omega) (by omega)
      refine ⟨n, o, t ++ [⟨key, val⟩], q, a2, s2, Ev.step (f := fun k => (spec_l1Cur_entry.f k l a1 s1).bind fun bt584 => (if t.length < 4398046511104 then (some (n, o, (t ++ [(⟨bt584.1, bt584.2.1⟩ : S45)]), q, bt584.2.2.1, bt584.2.2.2)) else (none))) (fun k => ?_) (Ev.bind g ?_), ⟨by have := hb.1; simp; omega, by have := hb.2.1; omega, fun x hx => ?_⟩, by omega, by omega⟩
      · simp only [spec_l1Cur_segmented.j1, e1, Option.bind_some]
        rw [if_neg c0, if_pos c1]
      · simp only [if_pos (show t.length < 4398046511104 by have := hb.1; omega)]; exact Ev.now _
      · rw [List.append_assoc, List.mem_append] at hx
        rcases hx with hx | hx
        · exact hb.2.2 x (List.mem_append_left _ hx)
        · rw [List.mem_append] at hx
          rcases hx with hx | hx
          · rw [List.mem_singleton.1 hx]
            have : key.size ≤ 100 := gk
            show key.size ≤ 1048576
            omega
          · exact hb.2.2 x (List.mem_append_right _ hx)
    · refine ⟨n, o, t, q, a1, s1, Ev.step (f := fun _ => some (n, o, t, q, a1, s1)) (fun k => ?_) (Ev.now _), ⟨by have := hb.1; omega, by have := hb.2.1; omega, hb.2.2⟩, by omega, by omega⟩
      simp only [spec_l1Cur_segmented.j1, e1, Option.bind_some]
      rw [if_neg c0, if_neg c1]
theorem seg_j0 {l : List Int} (hl : Byt l) (x : List S45) (a s : Int) (h0 : 0 ≤ a) (h1 : a ≤ 20000) :
    ∃ n' o' t' q' a' s', Ev (fun k => spec_l1Cur_segmented.j0 k x l a s) (n', o', t', q', a', s') ∧ Bnd 61 t' q' ∧ 0 ≤ a' ∧ a' ≤ 200000 := by
  obtain ⟨r1, a1, s1, e1, p1, q1, u1, v1⟩ := pick_ok hl a s 100 h0 (by omega)
  obtain ⟨r2, a2, s2, e2, p2, q2, u2, v2⟩ := pick_ok hl a1 s1 100 (by omega) (by omega)
  obtain ⟨n, o, t, q, told, b, g, hb⟩ := PlayS (wrap64 (100 + r1)) (wrap64 (100 + r2)) x
  cases b with
  | true =>
    obtain ⟨n', o', t', q', a', s', g1, g2⟩ := seg_j1 hl a2 s2 n o t q (by omega) (by omega) hb
    refine ⟨n', o', t', q', a', s', Ev.step (fun k => ?_) (Ev.bind g (f := fun k bt554 => if bt554.2.2.2.2.2 = true then (spec_l1Cur_segmented.j1 k l a2 s2 bt554.1 bt554.2.1 bt554.2.2.1 bt554.2.2.2.1) else ((spec_NewSegmented.f 100 100).bind fun bt566 => (spec_l1Cur_segmented.j1 k l a2 s2 bt566.1 bt566.2.1 bt566.2.2.1 bt566.2.2.2.1))) ?_), g2⟩
    · simp only [spec_l1Cur_segmented.j0, e1, e2, Option.bind_some]
    · simp only [if_true]; exact g1
  | false =>
    obtain ⟨n', o', t', q', a', s', g1, g2⟩ := seg_j1 hl a2 s2 100 100 [] [] (by omega) (by omega) (by simp [Bnd])
    refine ⟨n', o', t', q', a', s', Ev.step (fun k => ?_) (Ev.bind g (f := fun k bt554 => if bt554.2.2.2.2.2 = true then (spec_l1Cur_segmented.j1 k l a2 s2 bt554.1 bt554.2.1 bt554.2.2.1 bt554.2.2.2.1) else ((spec_NewSegmented.f 100 100).bind fun bt566 => (spec_l1Cur_segmented.j1 k l a2 s2 bt566.1 bt566.2.1 bt566.2.2.1 bt566.2.2.2.1))) ?_), g2⟩
    · simp only [spec_l1Cur_segmented.j0, e1, e2, Option.bind_some]
    · simp only [Bool.false_eq_true, if_false, spec_New, if_pos (show roomB 100 = true ∧ roomB 100 = true by decide), Option.bind_some]; exact g1
theorem seg_ok {l : List Int} (hl : Byt l) : ∃ n' o' t' q' a' s', Ev (fun k => spec_l1Cur_segmented.f k l 0 0) (n', o', t', q', a', s') ∧ Bnd 61 t' q' ∧ 0 ≤ a' ∧ a' ≤ 200000 := by
  obtain ⟨r, a1, s1, g, h1, h2, h3, _⟩ := entries_ok hl 0 0 (by omega) (by omega)
  unfold spec_l1Cur_segmented.f
  by_cases c : (r.length : Int) > 200
  · obtain ⟨n', o', t', q', a', s', g1, g2⟩ := seg_j0 hl (r.take (60 : Int).toNat) a1 s1 h2 h3
    refine ⟨n', o', t', q', a', s', Ev.bind g ?_, g2⟩
    simp only [if_pos c, if_pos (show (60 : Int) ≤ (r.length : Int) by omega)]; exact g1
  · obtain ⟨n', o', t', q', a', s', g1, g2⟩ := seg_j0 hl r a1 s1 h2 h3
    refine ⟨n', o', t', q', a', s', Ev.bind g ?_, g2⟩
    simp only [if_neg c]; exact g1
theorem drawPut_ok {l : List Int} (hl : Byt l) : ∃ n o t s a b, Ev (fun k => spec_DrawPutEntry.f k l) (n, o, t, s, a, b) ∧ Bnd 61 t s := by
  obtain ⟨n, o, t, s, a1, s1, g, hb, h0, h1⟩ := seg_ok hl
  obtain ⟨key, val, a2, s2, g2, _⟩ := entry_ok hl a1 s1 h0 (by omega)
  exact ⟨n, o, t, s, key, val, Ev.bind g (Ev.bind g2 (Ev.now _)), hb⟩
theorem drawGet_ok {l : List Int} (hl : Byt l) : ∃ n o t s a, Ev (fun k => spec_DrawGetEntry.f k l) (n, o, t, s, a) ∧ Bnd 61 t s := by
  obtain ⟨n, o, t, s, a1, s1, g, hb, h0, h1⟩ := seg_ok hl
  obtain ⟨x, a2, s2, e2, _⟩ := of_ok hl a1 s1 (([(⟨#[97]⟩ : ByteArray), (⟨#[98]⟩ : ByteArray), (⟨#[99]⟩ : ByteArray), (⟨#[120]⟩ : ByteArray), (⟨#[]⟩ : ByteArray)] : List ByteArray)) (by simp) h0 (by omega)
  refine ⟨n, o, t, s, x, Ev.bind g ?_, hb⟩
  simp only [e2, Option.bind_some]; exact Ev.now _

theorem nodup_inj {α β : Type} (f : α → β) : ∀ (l : List α), (l.map f).Nodup → ∀ x ∈ l, ∀ y ∈ l, f x = f y → x = y
  | [], _, _, hx, _, _, _ => by cases hx
  | z :: l, h, x, hx, y, hy, e => by
    rw [List.map_cons, List.nodup_cons] at h
    rcases List.mem_cons.1 hx with h1 | h1 <;> rcases List.mem_cons.1 hy with h2 | h2
    · rw [h1, h2]
    · rw [h1] at e
      exact absurd (e ▸ List.mem_map_of_mem h2) h.1
    · rw [h2] at e
      exact absurd (e ▸ List.mem_map_of_mem h1) h.1
    · exact nodup_inj f l h.2 x h1 y h2 e
theorem nodup_head {l r : List S45} {x : S45} (hp : l.Perm (x :: r)) (h : (l.map keyE).Nodup) : keyE x ∉ r.map keyE := by
  have := (hp.map keyE).nodup_iff.1 h
  rw [List.map_cons, List.nodup_cons] at this
  exact this.1
theorem own_now {n o : Int} {t s : List S45} {m : Nat} (hb : Bnd m t s) (hm : m ≤ 1000000) : impl_Segmented_own.f n o t s = some (n, o, t, s) ∧ spec_l12Own.f n o t s = some (n, o, t, s) :=
  ⟨Own_impl n o t s (by have := hb.1; omega) (by have := hb.2.1; omega), Own_spec n o t s (by have := hb.1; omega) (by have := hb.2.1; omega)⟩
theorem GetE_good {n o : Int} {t s : List S45} (a : ByteArray) (hg : GoodP n o t s) : ∃ t' s' v b r, Ev (fun k => impl_GetEntry.f k n o t s a) (n, o, t', s', v, b) ∧ GoodP n o t' s' ∧ (t' ++ s' ++ r).Perm (t ++ s) ∧
    ((b = true ∧ ∃ e q, s' = e :: q ∧ keyE e = a.toList ∧ v = e.f1 ∧ e ∈ t ++ s) ∨ (b = false ∧ v = ⟨#[]⟩ ∧ a.toList ∉ (t ++ s).map keyE ∧ t' = t ∧ s' = s)) := by
  obtain ⟨t', s', v, b, r, g1, g2, g3, g4, g5⟩ := Get_both n o t s a hg
  refine ⟨t', s', v, b, r, ?_, g3, g4, g5⟩
  unfold impl_GetEntry.f
  refine Ev.bind (Good_now hg) ?_
  simp only [if_true]
  refine Ev.bind g2 ?_
  simp only [(own_now (Good_Bnd g3) (by omega)).1, Option.bind_some]
  exact Ev.now _
theorem GetE_any (n o : Int) (t s : List S45) (a : ByteArray) (hb : Bnd 100 t s) : ∃ n' o' t' s' v b, Ev (fun k => impl_GetEntry.f k n o t s a) (n', o', t', s', v, b) ∧ Ev (fun k => spec_GetEntry.f k n o t s a) (n', o', t', s', v, b) ∧ t'.length ≤ 100 ∧ s'.length ≤ 100 ∧ (b = false → v = ⟨#[]⟩) ∧
    (a.toList ∉ (t ++ s).map keyE → b = false) ∧ (b = true → GoodP n o t s ∧ n' = n ∧ o' = o ∧ GoodP n o t' s' ∧ (∃ r, (t' ++ s' ++ r).Perm (t ++ s)) ∧ ∃ e q, s' = e :: q ∧ keyE e = a.toList) := by
  obtain ⟨g, h1, h2, h3⟩ := Good_both2 n o t s (by have := hb.1; omega) (by have := hb.2.1; omega) hb.2.2
  cases g with
  | false =>
    refine ⟨0, 0, [], [], ⟨#[]⟩, false, ?_, ?_, by simp, by simp, fun _ => rfl, fun _ => rfl, fun h => by cases h⟩
    · unfold impl_GetEntry.f
      refine Ev.bind h2 ?_
      simp only [Bool.false_eq_true, if_false]; exact Ev.now _
    · unfold spec_GetEntry.f
      refine Ev.bind h1 ?_
      simp only [Bool.false_eq_true, if_false]; exact Ev.now _
  | true =>
    have hg := h3 rfl
    obtain ⟨t', s', v, b, r, g1, g2, g3, g4, g5⟩ := Get_both n o t s a hg
    have hb' := Good_Bnd g3
    refine ⟨n, o, t', s', v, b, ?_, ?_, by have := hb'.1; omega, by have := hb'.2.1; omega, fun h => ?_, fun h => ?_, fun h => ?_⟩
    · unfold impl_GetEntry.f
      refine Ev.bind h2 ?_
      simp only [if_true]
      refine Ev.bind g2 ?_
      simp only [(own_now hb' (by omega)).1, Option.bind_some]
      exact Ev.now _
    · unfold spec_GetEntry.f
      refine Ev.bind h1 ?_
      simp only [if_true, (own_now hb (by omega)).2, Option.bind_some]
      refine Ev.bind g1 ?_
      exact Ev.now _
    · rcases g5 with ⟨e, _⟩ | ⟨_, e, _⟩
      · rw [h] at e; cases e
      · exact e
    · rcases g5 with ⟨_, e, q, e1, e2, _, e3⟩ | ⟨e, _⟩
      · exact absurd (e2 ▸ List.mem_map_of_mem e3) h
      · exact e
    · rcases g5 with ⟨_, e, q, e1, e2, _⟩ | ⟨e, _⟩
      · exact ⟨hg, rfl, rfl, g3, ⟨r, g4⟩, e, q, e1, e2⟩
      · rw [h] at e; cases e
theorem PutJ_no (n o : Int) (t s : List S45) (a b : ByteArray) : Ev (fun k => spec_PutEntry.j0 k true n o t s a b) (0, 0, [], [], [], false) := by
  refine Ev.step (f := fun _ => some (0, 0, [], [], [], false)) (fun k => ?_) (Ev.now _)
  simp only [spec_PutEntry.j0, if_true]
theorem PutJ_yes {n o : Int} {t s : List S45} (a b : ByteArray) (ht : t.length ≤ 1048576) (hs : s.length ≤ 1048576) {p : Int × Int × List S45 × List S45 × List S45}
    (h : Ev (fun k => spec_l12Put.f k n o t s a b) p) : Ev (fun k => spec_PutEntry.j0 k false n o t s a b) (p.1, p.2.1, p.2.2.1, p.2.2.2.1, p.2.2.2.2, true) := by
  refine Ev.step (f := fun k => (spec_l12Put.f k n o t s a b).bind fun q => some (q.1, q.2.1, q.2.2.1, q.2.2.2.1, q.2.2.2.2, true)) (fun k => ?_) (Ev.bind h (Ev.now _))
  simp only [spec_PutEntry.j0, Bool.false_eq_true, if_false, Own_spec n o t s ht hs, Option.bind_some]
theorem Put_any (n o : Int) (t s : List S45) (a b : ByteArray) (hb : Bnd 100 t s) : ∃ q1 q2 q3 q4 q5 q6, Ev (fun k => spec_PutEntry.f k n o t s a b) (q1, q2, q3, q4, q5, q6) ∧ Ev (fun k => impl_PutEntry.f k n o t s a b) (q1, q2, q3, q4, q5, q6) ∧ q3.length ≤ 200 ∧ q4.length ≤ 200 ∧ q5.length ≤ 300 ∧
    (q6 = true → GoodP n o t s ∧ q1 = n ∧ q2 = o ∧ GoodP n o q3 q4 ∧ ((q3 ++ q4 ++ q5).map keyE).Nodup ∧ (q3 ++ q4 ++ q5).length = (t ++ s).length + (if a.toList ∈ (t ++ s).map keyE then 0 else 1) ∧ (⟨a, b⟩ : S45) ∈ q3 ++ q4) := by
  have ht : t.length ≤ 1048576 := by have := hb.1; omega
  have hs : s.length ≤ 1048576 := by have := hb.2.1; omega
  obtain ⟨g, h1, h2, h3⟩ := Good_both2 n o t s ht hs hb.2.2
  unfold spec_PutEntry.f impl_PutEntry.f
  cases g with
  | false =>
    refine ⟨0, 0, [], [], [], false, Ev.bind h1 ?_, Ev.bind h2 ?_, by simp, by simp, by simp, fun h => by cases h⟩
    · simp only [Bool.false_eq_true, if_false]; exact PutJ_no _ _ _ _ _ _
    · simp only [Bool.false_eq_true, if_false]; exact Ev.now _
  | true =>
    have hg := h3 rfl
    have e1 : spec_l12Entry.f a b = some (entryB ⟨a, b⟩) := spec_entry ⟨a, b⟩
    have e2 : impl_isEntry.f a b = some (entryB ⟨a, b⟩) := impl_entry ⟨a, b⟩
    cases he : entryB ⟨a, b⟩ with
    | false =>
      refine ⟨0, 0, [], [], [], false, Ev.bind h1 ?_, Ev.bind h2 ?_, by simp, by simp, by simp, fun h => by cases h⟩
      · simp only [if_true, e1, he, Option.bind_some, Bool.not_false]; exact PutJ_no _ _ _ _ _ _
      · simp only [if_true, e2, he, Option.bind_some, Bool.false_eq_true, if_false]; exact Ev.now _
    | true =>
      obtain ⟨t', s', th, p1, p2, p3, p5, _, p4, p6, _⟩ := Put_both n o t s a b hg he
      have hb' := Good_Bnd p3
      have hbb := Good_Bnd hg
      have l5 : th.length ≤ 300 := by
        have e3 := hbb.1
        have e4 := hbb.2.1
        have p7 := p4
        simp only [List.length_append] at p7
        split at p7 <;> omega
      refine ⟨n, o, t', s', th, true, Ev.bind h1 ?_, Ev.bind h2 ?_, by have := hb'.1; omega, by have := hb'.2.1; omega, l5, fun _ => ⟨hg, rfl, rfl, p3, p5, p4, p6⟩⟩
      · simp only [if_true, e1, he, Option.bind_some, Bool.not_true]
        exact PutJ_yes a b ht hs p1
      · simp only [if_true, e2, he, Option.bind_some]
        exact Ev.bind p2 (Ev.now _)
theorem Keys_l (l : List S45) (hl : l.length ≤ 1000) (d : Nat) : ∀ (j : Nat), j + d = l.length → Ev (fun k => impl_KeysIn.l0 k ((l.take j).map (fun x => x.f0)) l (l.length : Int) (j : Int)) (l.map (fun x => x.f0), true) := by
  induction d with
  | zero =>
    intro j hj
    rw [List.take_of_length_le (by omega)]
    refine Ev.step (f := fun _ => some (l.map (fun x => x.f0), true)) (fun k => ?_) (Ev.now _)
    simp only [impl_KeysIn.l0]; rw [if_neg (by omega)]
  | succ d ih =>
    intro j hj
    have hlt : j < l.length := by omega
    have h := ih (j + 1) (by omega)
    rw [List.take_succ_eq_append_getElem hlt, List.map_append] at h
    refine Ev.step (fun k => ?_) h
    simp only [impl_KeysIn.l0]
    rw [if_pos (by omega), if_pos (by omega), if_pos (by omega), if_pos (by simp; omega), rd45j l j hlt, wj (n := l.length) hlt (by omega)]
    rfl
theorem Keys_now {n o : Int} {t s : List S45} (hg : GoodP n o t s) : Ev (fun k => impl_KeysIn.f k n o t s) ((s ++ t).map (fun x => x.f0), true) := by
  have hb := Good_Bnd hg
  have h1 := hb.1
  have h2 := hb.2.1
  unfold impl_KeysIn.f
  refine Ev.bind (Good_now hg) ?_
  have e : slices_ConcatE.f ([s, t] : List (List S45)) = some (s ++ t) := by
    unfold slices_ConcatE.f
    rw [if_pos (by simp; omega)]; simp
  simp only [if_true, e, Option.bind_some]
  exact Keys_l (s ++ t) (by simp; omega) (s ++ t).length 0 (by omega)
theorem Bytes_now {n o : Int} {t s : List S45} (hg : GoodP n o t s) : ∃ x y, Ev (fun k => impl_BytesIn.f k n o t s) (x, y, true) ∧ x ≤ n ∧ y ≤ o := by
  have hb := Good_Bnd hg
  have w1 := impl_weight_l t (by have := hb.1; omega) t.length 0 0 (by omega)
  have w2 := impl_weight_l s (by have := hb.2.1; omega) s.length 0 0 (by omega)
  refine ⟨wgt 0 t, wgt 0 s, ?_, hg.2.2.1.2.2.2, hg.2.2.2.1.2.2.2⟩
  unfold impl_BytesIn.f
  refine Ev.bind (Good_now hg) ?_
  simp only [if_true]
  exact Ev.bind w1 (Ev.bind w2 (Ev.now _))
theorem Drop_now {n o : Int} {t s : List S45} (a : ByteArray) (hg : GoodP n o t s) (ha : a.toList ∈ (t ++ s).map keyE) : ∃ t' s', Ev (fun k => impl_DropEntry.f k n o t s a) (n, o, t', s', true) ∧ Bnd 100 t' s' ∧ a.toList ∉ (t' ++ s').map keyE := by
  have hb := Good_Bnd hg
  have hpre := good_pre hg
  have e0 := (own_now hb (by omega) (n := n) (o := o)).1
  rcases fndE_cases a s with ⟨e, en⟩ | ⟨j, hj, e, ek⟩
  · rcases fndE_cases a t with ⟨f, fn_⟩ | ⟨i, hi, f, fk⟩
    · rw [List.map_append, List.mem_append] at ha
      rcases ha with h | h
      · exact absurd h fn_
      · exact absurd h en
    · have hp : (t ++ s).Perm (t[i] :: (t.eraseIdx i ++ s)) := ((cons_erase_perm t i hi).symm.append_right s)
      refine ⟨t.eraseIdx i, s, ?_, ⟨by have := List.length_eraseIdx_le t i; have := hb.1; omega, by have := hb.2.1; omega, fun x hx => hb.2.2 x (hp.mem_iff.2 (List.mem_cons_of_mem _ hx))⟩, ?_⟩
      · unfold impl_DropEntry.f
        refine Ev.bind (Good_now hg) ?_
        simp only [if_true, e0, Option.bind_some, takeE, if_neg (show ¬ 0 ≤ fndE a s 0 by omega), if_pos (show 0 ≤ fndE a t 0 by omega), f, Int.toNat_natCast]
        exact Ev.now _
      · rw [← fk]; exact nodup_head hp hpre.2
  · have hp : (t ++ s).Perm (s[j] :: (t ++ s.eraseIdx j)) := ((cons_erase_perm s j hj).symm.append_left t).trans List.perm_middle
    refine ⟨t, s.eraseIdx j, ?_, ⟨by have := hb.1; omega, by have := List.length_eraseIdx_le s j; have := hb.2.1; omega, fun x hx => hb.2.2 x (hp.mem_iff.2 (List.mem_cons_of_mem _ hx))⟩, ?_⟩
    · unfold impl_DropEntry.f
      refine Ev.bind (Good_now hg) ?_
      simp only [if_true, e0, Option.bind_some, takeE, if_pos (show 0 ≤ fndE a s 0 by omega), e, Int.toNat_natCast]
      exact Ev.now _
    · rw [← ek]; exact nodup_head hp hpre.2
theorem ev_all {α : Type} (P : α → Nat → Prop) : ∀ (l : List α), (∀ x ∈ l, ∃ K, ∀ k, K ≤ k → P x k) → ∃ K, ∀ x ∈ l, ∀ k, K ≤ k → P x k
  | [], _ => ⟨0, fun x hx => by cases hx⟩
  | y :: l, h => by
    obtain ⟨K1, h1⟩ := h y List.mem_cons_self
    obtain ⟨K2, h2⟩ := ev_all P l (fun x hx => h x (List.mem_cons_of_mem _ hx))
    refine ⟨K1 + K2, fun x hx k hk => ?_⟩
    rcases List.mem_cons.1 hx with rfl | hx
    · exact h1 k (by omega)
    · exact h2 x hx k (by omega)

theorem hadF_eq (a : ByteArray) : ∀ (l : List ByteArray) (h : Int), hadF a l h = if a.toList ∈ l.map ByteArray.toList then 1 else h
  | [], h => by simp [hadF]
  | x :: xs, h => by
    simp only [hadF, List.map_cons, List.mem_cons]
    rw [hadF_eq a xs]
    by_cases c : x.toList = a.toList
    · simp [c]
    · have c' : ¬ a.toList = x.toList := fun e => c e.symm
      simp [c, c']
theorem partA_ev {n o : Int} {t s : List S45} {a b : ByteArray} {q1 q2 : Int} {q3 q4 q5 : List S45} (hg : GoodP n o t s) (hq : GoodP q1 q2 q3 q4)
    (hn : ((q3 ++ q4 ++ q5).map keyE).Nodup) (hl : (q3 ++ q4 ++ q5).length = (t ++ s).length + (if a.toList ∈ (t ++ s).map keyE then 0 else 1)) (hm : (⟨a, b⟩ : S45) ∈ q3 ++ q4) (h5 : q5.length ≤ 300) :
    ∃ K, ∀ k, K ≤ k → PartsA k n o t s a b q1 q2 q3 q4 q5 := by
  have hb := Good_Bnd hg
  have hbq := Good_Bnd hq
  obtain ⟨z3, z4, v, bb, r, ⟨K1, g1⟩, g2, g3, g4⟩ := GetE_good a hq
  obtain ⟨b1, b2, ⟨K2, w1⟩, w2, w3⟩ := Bytes_now hq
  obtain ⟨K3, k1⟩ := Keys_now hq
  obtain ⟨K4, k2⟩ := Keys_now hg
  obtain ⟨K5, s1⟩ := Good_now hq
  obtain ⟨K6, s2⟩ := Good_now g2
  obtain ⟨K7, hgo⟩ := ev_all (fun (x : S45) k => ∃ g1_ g2_ g3_ g4_ gv_, impl_GetEntry.f k q1 q2 q3 q4 x.f0 = some (g1_, g2_, g3_, g4_, gv_, false)) q5 (fun x hx => by
    obtain ⟨y3, y4, u, c, _, ⟨K, e1⟩, _, _, e4⟩ := GetE_good x.f0 hq
    rcases e4 with ⟨_, e, q, _, e2, _, e3⟩ | ⟨rfl, _⟩
    · rw [List.map_append, List.nodup_append] at hn
      exact absurd e2 (hn.2.2 _ (List.mem_map_of_mem e3) _ (List.mem_map_of_mem (f := keyE) hx))
    · exact ⟨K, fun k hk => ⟨_, _, _, _, _, e1 k hk⟩⟩)
  have hv : bb = true ∧ v = b := by
    rcases g4 with ⟨e0, e, q, _, e2, e3, e4⟩ | ⟨_, _, e, _⟩
    · refine ⟨e0, ?_⟩
      rw [List.map_append, List.nodup_append] at hn
      have := nodup_inj keyE (q3 ++ q4) hn.1 e e4 _ hm e2
      rw [e3, this]
    · exact absurd (List.mem_map_of_mem (f := keyE) hm) e
  obtain ⟨rfl, rfl⟩ := hv
  refine ⟨K1 + K2 + K3 + K4 + K5 + K6 + K7, fun k hk => ⟨q1, q2, z3, z4, b1, b2, _, _, g1 k (by omega), w1 k (by omega), w2, w3, k1 k (by omega), k2 k (by omega), s1 k (by omega), s2 k (by omega), ?_, ?_, by omega, ?_, fun x hx => hgo x hx k (by omega)⟩⟩
  · have := hbq.1; have := hbq.2.1
    simp; omega
  · have := hb.1; have := hb.2.1
    simp; omega
  · have e : hadP a ((s ++ t).map (fun x => x.f0)) = if a.toList ∈ (t ++ s).map keyE then 1 else 0 := by
      show hadF a _ 0 = _
      rw [hadF_eq, List.map_map]
      have : (a.toList ∈ (s ++ t).map (ByteArray.toList ∘ fun x => x.f0)) = (a.toList ∈ (t ++ s).map keyE) := by
        show (a.toList ∈ (s ++ t).map keyE) = _
        simp only [List.map_append, List.mem_append, or_comm]
      simp only [this]
    rw [e]
    simp only [List.length_append, List.length_map] at hl ⊢
    split at hl
    · rename_i h; rw [if_pos h]; omega
    · rename_i h; rw [if_neg h]; omega
theorem partB_ev {n o : Int} {t s : List S45} {a : ByteArray} {t' s' r : List S45} (hg : GoodP n o t s) (hv : GoodP n o t' s') (hp : (t' ++ s' ++ r).Perm (t ++ s)) {e : S45} {q : List S45} (he : s' = e :: q) (hk : keyE e = a.toList) :
    ∃ K, ∀ k, K ≤ k → PartsB k n o t s a n o t' s' := by
  have hb := Good_Bnd hg
  have hbv := Good_Bnd hv
  obtain ⟨d3, d4, ⟨K1, g1⟩, g2, g3⟩ := Drop_now a hv (by rw [← hk, he]; exact List.mem_map_of_mem (f := keyE) (List.mem_append_right _ List.mem_cons_self))
  obtain ⟨f1, f2, f3, f4, fv, c, ⟨K2, w1⟩, _, _, _, _, w2, _⟩ := GetE_any n o d3 d4 a g2
  obtain rfl := w2 g3
  obtain ⟨K3, k1⟩ := Keys_now hg
  obtain ⟨K4, k2⟩ := Keys_now hv
  obtain ⟨K5, s1⟩ := Good_now hv
  have hl := hp.length_eq
  simp only [List.length_append] at hl
  refine ⟨K1 + K2 + K3 + K4 + K5, fun k hk' => ⟨n, o, d3, d4, f1, f2, f3, f4, fv, _, _, g1 k (by omega), w1 k (by omega), k1 k (by omega), k2 k (by omega), ?_, ?_, ?_, s1 k (by omega)⟩⟩
  · simp; omega
  · rw [he]; simp
  · rw [he]
    show (e.f0.toList == a.toList) = true
    rw [show e.f0.toList = a.toList from hk]; exact beq_self_eq_true _
theorem Bnd.le {m m' : Nat} {t s : List S45} (h : Bnd m t s) (hm : m ≤ m') : Bnd m' t s := ⟨Nat.le_trans h.1 hm, Nat.le_trans h.2.1 hm, h.2.2⟩
theorem FnParts : laws_FnParts.Pure := by
  intro l0 l1 _ _ hw0 _ _ hw1
  by_cases hlim : wrap64 ((l0.length : Int) + (l1.length : Int)) > 1048576
  · exact .inl hlim
  obtain ⟨n, o, t, s, a, b, ⟨K1, d1⟩, hb1⟩ := drawPut_ok (byt_of hw0)
  obtain ⟨q1, q2, q3, q4, q5, q6, ⟨K2, p2⟩, ⟨K3, p1⟩, m3, m4, m5, hq⟩ := Put_any n o t s a b (hb1.le (by omega))
  obtain ⟨K4, c1⟩ := sameCaches_ev q1 q2 q3 q4 (by omega) (by omega)
  obtain ⟨K5, c2⟩ := sameEntries_ev q5 (by omega)
  obtain ⟨u1, u2, u3, u4, key, ⟨K6, d2⟩, hb2⟩ := drawGet_ok (byt_of hw1)
  obtain ⟨v1, v2, v3, v4, val, is, ⟨K7, e1⟩, ⟨K8, e2⟩, m6, m7, hz, _, hi⟩ := GetE_any u1 u2 u3 u4 key (hb2.le (by omega))
  obtain ⟨K9, c3⟩ := sameCaches_ev v1 v2 v3 v4 (by omega) (by omega)
  obtain ⟨K10, hA⟩ : ∃ K, ∀ k, K ≤ k → q6 = true → PartsA k n o t s a b q1 q2 q3 q4 q5 := by
    by_cases c : q6 = true
    · obtain ⟨h1, rfl, rfl, h2, h3, h4, h5⟩ := hq c
      obtain ⟨K, h⟩ := partA_ev h1 h2 h3 h4 h5 m5
      exact ⟨K, fun k hk _ => h k hk⟩
    · exact ⟨0, fun k _ h => absurd h c⟩
  obtain ⟨K11, hB⟩ : ∃ K, ∀ k, K ≤ k → is = true → PartsB k u1 u2 u3 u4 key v1 v2 v3 v4 := by
    by_cases c : is = true
    · obtain ⟨h1, rfl, rfl, h2, ⟨r, h3⟩, e, q, h4, h5⟩ := hi c
      obtain ⟨K, h⟩ := partB_ev h1 h2 h3 h4 h5
      exact ⟨K, fun k hk _ => h k hk⟩
    · exact ⟨0, fun k _ h => absurd h c⟩
  obtain ⟨k, hk⟩ : ∃ k, k = K1 + K2 + K3 + K4 + K5 + K6 + K7 + K8 + K9 + K10 + K11 := ⟨_, rfl⟩
  exact .inr ⟨k, n, o, t, s, a, b, q1, q2, q3, q4, q5, u1, u2, u3, u4, key, v1, v2, v3, v4, val, q6, is,
    ⟨hlim, d1 k (by omega), p1 k (by omega), p2 k (by omega), c1 k (by omega), c2 k (by omega), d2 k (by omega), e1 k (by omega), e2 k (by omega), c3 k (by omega), hz, hA k (by omega), hB k (by omega)⟩⟩

end Go.Proofs.Ytfopmaiednikhaa.Pure
