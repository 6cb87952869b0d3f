/- A bucket and a pacer answer drawn times alike, and a pacer lets come when it said that it would. -/
import Derived.Test.YtobbhgghpjecjaaPFnPacedx6
import Derived.Lib.RabinKarpLaws
namespace Go.Proofs.Ytobbhgghpjecjaa.Pure
open Go.RowKit Go.Proofs.Ytobbhgghpjecjaa.PFnPaced Go.Proofs.YtobbhgghpjecjaaW.PrintWords Go.Proofs.YtobbhgghpjecjaaW.PrintLast Go.Proofs.YtobbhgghpjecjaaW.PrintMore Go.Proofs.YtobbhgghpjecjaaOwn
set_option linter.unusedVariables false
set_option linter.unusedSimpArgs false

theorem wj {j n : Nat} (h : j < n) (hn : n ≤ 4611686018427387904) : wrap64 ((j : Int) + 1) = ((j + 1 : Nat) : Int) := by
  unfold wrap64; omega
theorem w64 {x : Int} (h0 : -9223372036854775808 ≤ x) (h1 : x ≤ 9223372036854775807) : wrap64 x = x := by
  unfold wrap64; omega
theorem rdj (l : List Int) (j : Nat) : rd l (j : Int) = l.getD j 0 := rfl
theorem getD_at {α : Type} {l : List α} {j : Nat} (h : j < l.length) (z : α) : l.getD j z = l[j] := by
  rw [List.getD_eq_getElem?_getD, List.getElem?_eq_getElem h]; rfl
theorem Ev.law {g : Nat → Option Bool} (h : Ev g true) : ∃ k, g k = some true := h.rounds
theorem wf_i64 {x : Int} (h : (Lit.int .i64 x).wf = true) : -9223372036854775808 ≤ x ∧ x ≤ 9223372036854775807 := by
  simp only [Lit.wf, IntKind.min, IntKind.max, IntKind.signed, IntKind.bits, Bool.and_eq_true, decide_eq_true_eq, if_true] at h
  omega

theorem l1In_eq (a b c : Int) : spec_l1In.f a b c = some (decide (b ≤ a ∧ a ≤ c)) := by
  unfold spec_l1In.f; by_cases h : b ≤ a <;> simp [h]
theorem within_eq (a b c : Int) : impl_within.f a b c = some (decide (b ≤ a ∧ a ≤ c)) := by
  unfold impl_within.f; by_cases h : b ≤ a <;> simp [h]

theorem isRate_said (a b : Int) : impl_isRate.f a b = spec_l16Said.f a b := by
  unfold impl_isRate.f spec_l16Said.f; simp only [within_eq, l1In_eq]
theorem l16Said_eq (a b : Int) : spec_l16Said.f a b = some (decide ((1 ≤ a ∧ a ≤ 10000) ∧ 0 ≤ b ∧ b ≤ 100000)) := by
  unfold spec_l16Said.f
  simp only [l1In_eq, Option.bind_some, decide_eq_true_eq]
  by_cases h : 1 ≤ a ∧ a ≤ 10000 <;> simp [h]

--IMPORT Derived.Lib.RabinKarpLaws
/-- Bytes. -/
def Byt (l : List Int) : Prop := ∀ x ∈ l, 0 ≤ x ∧ x ≤ 255
theorem byt_of {l : List Int} (h : ∀ x ∈ l, (Lit.int .u8 x).wf = true) : Byt l := by
  intro x hx
  have := h x hx
  simp only [Lit.wf, IntKind.min, IntKind.max, IntKind.signed, IntKind.bits, Bool.and_eq_true, decide_eq_true_eq] at this
  simp at this; omega
theorem byt_rd {l : List Int} (hl : Byt l) (j : Nat) (hj : j < l.length) : 0 ≤ rd l (j : Int) ∧ rd l (j : Int) ≤ 255 := by
  rw [rdj, getD_at hj]; exact hl _ (List.getElem_mem hj)
theorem and255 (x : Int) : 0 ≤ Go.bits .and .u64 x 255 ∧ Go.bits .and .u64 x 255 ≤ 255 := by
  have e : ∀ z : Nat, z ≤ 255 → IntKind.u64.wrap (z : Int) = (z : Int) := by
    intro z hz; simp only [IntKind.wrap, IntKind.bits, IntKind.signed]; simp; omega
  have hz : ∀ y : Nat, y &&& 255 ≤ 255 := fun y => Nat.and_le_right
  have : ∃ z : Nat, z ≤ 255 ∧ Go.bits .and .u64 x 255 = (z : Int) := by
    refine ⟨_, hz (x % 18446744073709551616).toNat, ?_⟩
    rw [← e _ (hz _)]
    simp only [Go.bits, IntKind.bits]
    rfl
  obtain ⟨z, h1, h2⟩ := this
  rw [h2]; omega
theorem next_ok {l : List Int} (hl : Byt l) (a s : Int) (h0 : 0 ≤ a) (h1 : a ≤ 4611686018427387904) :
    ∃ r s', spec_l1Cur_next.f l a s = some (r, a + 1, s') ∧ 0 ≤ r ∧ r ≤ 255 := by
  unfold spec_l1Cur_next.f
  have e1 : wrap64 (a + 1) = a + 1 := w64 (by omega) (by omega)
  by_cases c : a < (l.length : Int)
  · have hb := byt_rd hl a.toNat (by omega)
    rw [show ((a.toNat : Nat) : Int) = a from by omega] at hb
    rw [if_pos c, if_pos h0, e1, if_pos (by omega), w64 (x := rd l a) (by omega) (by omega)]
    exact ⟨_, _, rfl, hb.1, hb.2⟩
  · rw [if_neg c, e1, if_neg (by omega)]
    refine ⟨_, _, rfl, ?_⟩
    have hb := and255 (IntKind.u64.wrap (IntKind.u64.wrap (IntKind.u64.wrap (s * 6364136223846793005)) + 1442695040888963407) / 1099511627776)
    rw [w64 (by omega) (by omega)]
    exact hb
theorem pick_ok {l : List Int} (hl : Byt l) (a s n : Int) (h0 : 0 ≤ a) (h1 : a ≤ 4611686018427387900) :
    ∃ r a' s', spec_l1Cur_pick.f l a s n = some (r, a', s') ∧ 0 ≤ r ∧ (r < n ∨ n ≤ 1 ∧ r = 0) ∧ a ≤ a' ∧ a' ≤ a + 2 := by
  unfold spec_l1Cur_pick.f
  by_cases c : n ≤ 1
  · rw [if_pos c]; exact ⟨_, _, _, rfl, by omega, .inr ⟨c, rfl⟩, by omega, by omega⟩
  · obtain ⟨r, s1, e1, g0, g1⟩ := next_ok hl a s h0 (by omega)
    rw [if_neg c, e1]
    simp only [Option.bind_some]
    by_cases c2 : n > 200
    · obtain ⟨r2, s2, e2, k0, k1⟩ := next_ok hl (a + 1) s1 (by omega) (by omega)
      rw [if_pos c2, e2]
      simp only [Option.bind_some]
      rw [if_neg (by omega), w64 (x := r * 256) (by omega) (by omega), w64 (by omega) (by omega)]
      exact ⟨_, _, _, rfl, Int.tmod_nonneg _ (by omega), .inl (Int.tmod_lt_of_pos _ (by omega)), by omega, by omega⟩
    · rw [if_neg c2, if_neg (by omega)]
      exact ⟨_, _, _, rfl, Int.tmod_nonneg _ (by omega), .inl (Int.tmod_lt_of_pos _ (by omega)), by omega, by omega⟩
theorem one_ok {l : List Int} (hl : Byt l) (a s n : Int) (h0 : 0 ≤ a) (h1 : a ≤ 4611686018427387900) :
    ∃ b a' s', spec_l1Cur_one.f l a s n = some (b, a', s') ∧ a ≤ a' ∧ a' ≤ a + 2 := by
  unfold spec_l1Cur_one.f
  obtain ⟨r, a', s', e, _, _, g⟩ := pick_ok hl a s n h0 h1
  rw [e]; exact ⟨_, _, _, rfl, g⟩
theorem among_ok {l : List Int} (hl : Byt l) (a s : Int) (x : List Int) (hx : 1 < x.length) (h0 : 0 ≤ a) (h1 : a ≤ 4611686018427387900) :
    ∃ r a' s', spec_l1Cur_among.f l a s x = some (r, a', s') ∧ r ∈ x ∧ a ≤ a' ∧ a' ≤ a + 2 := by
  unfold spec_l1Cur_among.f
  obtain ⟨r, a', s', e, g0, g1, g⟩ := pick_ok hl a s (x.length : Int) h0 h1
  have hr : r.toNat < x.length := by omega
  rw [e]
  simp only [Option.bind_some]
  rw [if_pos g0, if_pos (by omega)]
  refine ⟨_, _, _, rfl, ?_, g⟩
  rw [show r = ((r.toNat : Nat) : Int) from by omega, rdj, getD_at hr]
  exact List.getElem_mem hr

theorem rate_ok {l : List Int} (hl : Byt l) : ∃ e s a' s', spec_l1Cur_rate.f l 0 0 = some (e, s, a', s') ∧ 0 ≤ e ∧ e ≤ 10001 ∧ -1 ≤ s ∧ s ≤ 100001 ∧ 0 ≤ a' ∧ a' ≤ 8 := by
  unfold spec_l1Cur_rate.f
  obtain ⟨r1, a1, s1, e1, p1, q1, u1, v1⟩ := pick_ok hl 0 0 20 (by omega) (by omega)
  obtain ⟨r2, a2, s2, e2, p2, q2, u2, v2⟩ := pick_ok hl a1 s1 60 (by omega) (by omega)
  obtain ⟨r3, a3, s3, e3, p3, q3, u3, v3⟩ := pick_ok hl a2 s2 40 (by omega) (by omega)
  simp only [e1, e2, e3, Option.bind_some]
  by_cases c : r3 = 0
  · obtain ⟨r4, a4, s4, e4, h4, u4, v4⟩ := among_ok hl a3 s3 [0, 10000, 10001] (by simp) (by omega) (by omega)
    rw [if_pos c, e4]
    simp at h4
    exact ⟨_, _, _, _, rfl, by rcases h4 with h | h | h <;> simp [h], by rcases h4 with h | h | h <;> simp [h], by omega, by omega, by show 0 ≤ a4; omega, by show a4 ≤ 8; omega⟩
  · rw [if_neg c]
    by_cases c2 : r3 = 1
    · obtain ⟨r4, a4, s4, e4, h4, u4, v4⟩ := among_ok hl a3 s3 [-1, 100000, 100001] (by simp) (by omega) (by omega)
      rw [if_pos c2, e4]
      simp at h4
      have : wrap64 (1 + r1) = 1 + r1 := w64 (by omega) (by omega)
      exact ⟨_, _, _, _, rfl, by simp only [this]; omega, by simp only [this]; omega, by rcases h4 with h | h | h <;> simp [h], by rcases h4 with h | h | h <;> simp [h], by show 0 ≤ a4; omega, by show a4 ≤ 8; omega⟩
    · rw [if_neg c2]
      have : wrap64 (1 + r1) = 1 + r1 := w64 (by omega) (by omega)
      exact ⟨_, _, _, _, rfl, by simp only [this]; omega, by simp only [this]; omega, by omega, by omega, by omega, by omega⟩
/-- Small times. -/
def Small (m : Int) (l : List Int) : Prop := ∀ x ∈ l, 0 ≤ x ∧ x ≤ m
theorem Small.app {m m' : Int} {l : List Int} {x : Int} (h : Small m l) (hm : m ≤ m') (h0 : 0 ≤ x) (h1 : x ≤ m') : Small m' (l ++ [x]) := by
  intro y hy
  rcases List.mem_append.1 hy with hy | hy
  · have := h y hy; omega
  · rw [List.mem_singleton.1 hy]; omega
theorem Small.rd {m : Int} {l : List Int} (h : Small m l) (j : Nat) (hj : j < l.length) : 0 ≤ rd l (j : Int) ∧ rd l (j : Int) ≤ m := by
  rw [rdj, getD_at hj]; exact h _ (List.getElem_mem hj)
theorem times_l {l : List Int} (hl : Byt l) (d : Nat) : ∀ (x : List Int) (at_ a s : Int), x.length + d ≤ 200 → Small (4 + 14 * x.length) x → 0 ≤ at_ → at_ ≤ 4 + 14 * x.length → 0 ≤ a → a ≤ 100 + 4 * x.length →
    ∃ r a' s', Ev (fun k => spec_l1Cur_times.l0 k x at_ (d : Int) l a s) (r, a', s') ∧ r.length ≤ 200 ∧ Small 2900 r := by
  induction d with
  | zero =>
    intro x at_ a s hx hs h0 h1 ha ha1
    have hs' : Small 2804 x := fun y hy => by have := hs y hy; omega
    by_cases c : (x.length : Int) > 1
    · obtain ⟨b, a', s', e, _⟩ := one_ok hl a s 30 ha (by omega)
      by_cases cb : b = true
      · have g1 := Small.rd hs' 1 (by omega)
        refine ⟨x.set 0 (wrap64 (rd x 1 + 1)), a', s', Ev.step (f := fun _ => some (x.set 0 (wrap64 (rd x 1 + 1)), a', s')) (fun k => ?_) (Ev.now _), by simp; omega, ?_⟩
        · simp only [spec_l1Cur_times.l0]
          rw [if_neg (by omega), if_pos c, e]
          simp only [Option.bind_some]
          rw [if_pos cb, if_pos (by omega), if_pos (by omega)]; rfl
        · intro y hy
          have g1' : 0 ≤ rd x 1 ∧ rd x 1 ≤ 2804 := g1
          rcases List.mem_or_eq_of_mem_set hy with hy | hy
          · have := hs' y hy; omega
          · rw [hy, w64 (by omega) (by omega)]; omega
      · refine ⟨x, a', s', Ev.step (f := fun _ => some (x, a', s')) (fun k => ?_) (Ev.now _), by omega, fun y hy => by have := hs' y hy; omega⟩
        simp only [spec_l1Cur_times.l0]
        rw [if_neg (by omega), if_pos c, e]
        simp only [Option.bind_some]
        rw [if_neg cb]
    · refine ⟨x, a, s, Ev.step (f := fun _ => some (x, a, s)) (fun k => ?_) (Ev.now _), by omega, fun y hy => by have := hs' y hy; omega⟩
      simp only [spec_l1Cur_times.l0]
      rw [if_neg (by omega), if_neg c]
  | succ d ih =>
    intro x at_ a s hx hs h0 h1 ha ha1
    obtain ⟨r, a1, s1, e1, p1, q1, u1, v1⟩ := pick_ok hl a s 15 ha (by omega)
    obtain ⟨b, a2, s2, e2, u2, v2⟩ := one_ok hl a1 s1 2 (by omega) (by omega)
    have ew : wrap64 (((d + 1 : Nat) : Int) - 1) = (d : Int) := by rw [w64 (by omega) (by omega)]; omega
    have et : wrap64 (at_ + r) = at_ + r := w64 (by omega) (by omega)
    have hm0 : 0 ≤ Int.tmod (at_ + r) 3 := Int.tmod_nonneg _ (by omega)
    have hm1 : Int.tmod (at_ + r) 3 ≤ at_ + r := by
      have : Int.tmod (at_ + r) 3 = (at_ + r) % 3 := Int.tmod_eq_emod_of_nonneg (by omega)
      rw [this]; omega
    have em : wrap64 (at_ + r - Int.tmod (at_ + r) 3) = at_ + r - Int.tmod (at_ + r) 3 := w64 (by omega) (by omega)
    have hlen : ((x ++ [at_]).length : Int) = x.length + 1 := by simp
    have more : ∀ y : Int, 0 ≤ y → y ≤ 4 + 14 * ((x.length : Int) + 1) → ∃ r' a' s', Ev (fun k => spec_l1Cur_times.l0 k (x ++ [y]) y (d : Int) l a2 s2) (r', a', s') ∧ r'.length ≤ 200 ∧ Small 2900 r' := by
      intro y hy0 hy1
      have el : ((x ++ [y]).length : Int) = x.length + 1 := by simp
      exact ih (x ++ [y]) y a2 s2 (by simp; omega) (by rw [el]; exact hs.app (by omega) hy0 hy1) hy0 (by rw [el]; exact hy1) (by omega) (by rw [el]; omega)
    by_cases cb : b = true
    · by_cases c0 : (x.length : Int) > 0
      · have el : wrap64 ((x.length : Int) - 1) = ((x.length - 1 : Nat) : Int) := by rw [w64 (by omega) (by omega)]; omega
        have hr := hs.rd (x.length - 1) (by omega)
        by_cases c1 : at_ + r - Int.tmod (at_ + r) 3 < rd x ((x.length - 1 : Nat) : Int)
        · obtain ⟨r', a', s', g, g2⟩ := more (rd x ((x.length - 1 : Nat) : Int)) hr.1 (by omega)
          refine ⟨r', a', s', Ev.step (fun k => ?_) g, g2⟩
          simp only [spec_l1Cur_times.l0]
          rw [if_pos (by omega), e1]
          simp only [Option.bind_some, e2]
          rw [if_pos cb, if_pos c0, el, if_pos (by omega), if_pos (by omega), et, em, if_pos c1, if_pos (by omega), ew]
        · obtain ⟨r', a', s', g, g2⟩ := more (at_ + r - Int.tmod (at_ + r) 3) (by omega) (by omega)
          refine ⟨r', a', s', Ev.step (fun k => ?_) g, g2⟩
          simp only [spec_l1Cur_times.l0]
          rw [if_pos (by omega), e1]
          simp only [Option.bind_some, e2]
          rw [if_pos cb, if_pos c0, el, if_pos (by omega), if_pos (by omega), et, em, if_neg c1, if_pos (by omega), ew]
      · obtain ⟨r', a', s', g, g2⟩ := more (at_ + r - Int.tmod (at_ + r) 3) (by omega) (by omega)
        refine ⟨r', a', s', Ev.step (fun k => ?_) g, g2⟩
        simp only [spec_l1Cur_times.l0]
        rw [if_pos (by omega), e1]
        simp only [Option.bind_some, e2]
        rw [if_pos cb, if_neg c0, et, em, if_pos (by omega), ew]
    · obtain ⟨r', a', s', g, g2⟩ := more (at_ + r) (by omega) (by omega)
      refine ⟨r', a', s', Ev.step (fun k => ?_) g, g2⟩
      simp only [spec_l1Cur_times.l0]
      rw [if_pos (by omega), e1]
      simp only [Option.bind_some, e2]
      rw [if_neg cb, et, if_pos (by omega), ew]
theorem times_ok {l : List Int} (hl : Byt l) (a s : Int) (h0 : 0 ≤ a) (h1 : a ≤ 20) : ∃ r a' s', Ev (fun k => spec_l1Cur_times.f k l a s) (r, a', s') ∧ r.length ≤ 200 ∧ Small 2900 r := by
  unfold spec_l1Cur_times.f
  obtain ⟨r1, a1, s1, e1, p1, q1, u1, v1⟩ := pick_ok hl a s 5 (by omega) (by omega)
  obtain ⟨r2, a2, s2, e2, p2, q2, u2, v2⟩ := pick_ok hl a1 s1 24 (by omega) (by omega)
  obtain ⟨b, a3, s3, e3, u3, v3⟩ := one_ok hl a2 s2 20 (by omega) (by omega)
  simp only [e1, e2, e3, Option.bind_some]
  have go : ∀ (n : Nat) (a s : Int), n ≤ 200 → 0 ≤ a → a ≤ 100 → ∃ r a' s', Ev (fun k => spec_l1Cur_times.j0 k [] r1 (n : Int) l a s) (r, a', s') ∧ r.length ≤ 200 ∧ Small 2900 r := by
    intro n a s hn h0 h1
    obtain ⟨r, a', s', g, g2⟩ := times_l hl n [] r1 a s (by simpa using hn) (fun y hy => absurd hy (by simp)) p1 (by simp; omega) h0 (by simp; omega)
    exact ⟨r, a', s', Ev.step (f := fun k => spec_l1Cur_times.l0 k [] r1 (n : Int) l a s) (fun k => by simp [spec_l1Cur_times.j0]) g, g2⟩
  by_cases cb : b = true
  · obtain ⟨r4, a4, s4, e4, p4, q4, u4, v4⟩ := pick_ok hl a3 s3 2 (by omega) (by omega)
    obtain ⟨r, a', s', g, g2⟩ := go (120 + r4).toNat a4 s4 (by omega) (by omega) (by omega)
    refine ⟨r, a', s', Ev.congr (fun k => ?_) g, g2⟩
    rw [if_pos cb, e4]
    simp only [Option.bind_some]
    rw [w64 (by omega) (by omega), show (((120 + r4).toNat : Nat) : Int) = 120 + r4 from by omega]
  · obtain ⟨r, a', s', g, g2⟩ := go r2.toNat a3 s3 (by omega) (by omega) (by omega)
    refine ⟨r, a', s', Ev.congr (fun k => ?_) g, g2⟩
    rw [if_neg cb, show ((r2.toNat : Nat) : Int) = r2 from by omega]
theorem drawPlay_ok {l : List Int} (hl : Byt l) : ∃ e s ts, Ev (fun k => spec_DrawPlayBucket.f k l) (e, s, ts) ∧ ts.length ≤ 200 ∧ Small 2900 ts := by
  unfold spec_DrawPlayBucket.f
  obtain ⟨e, s, a, q, h, _, _, _, _, ha0, ha1⟩ := rate_ok hl
  obtain ⟨r, a', s', g, g2⟩ := times_ok hl a q ha0 (by omega)
  refine ⟨e, s, r, ?_, g2⟩
  simp only [h, Option.bind_some]
  exact Ev.bind g (Ev.now _)

/-- Times in order. -/
def Good (l : List Int) : Prop := (∀ n ∈ l, 0 ≤ n ∧ n ≤ 253402300799) ∧ ∀ i, i + 1 < l.length → l.getD i 0 ≤ l.getD (i + 1) 0
theorem l16Times_l (l : List Int) (hn : l.length ≤ 1048576) (d : Nat) : ∀ (j : Nat), j + d = l.length → (∀ n ∈ l.take j, 0 ≤ n ∧ n ≤ 253402300799) → (∀ i, i + 1 < j → l.getD i 0 ≤ l.getD (i + 1) 0) →
    (Good l → Ev (fun k => spec_l16Times.l0 k l l (l.length : Int) (j : Int)) (decide ((l.length : Int) ≤ 120))) ∧ (¬ Good l → Ev (fun k => spec_l16Times.l0 k l l (l.length : Int) (j : Int)) false) := by
  induction d with
  | zero =>
    intro j hj h1 h2
    rw [List.take_of_length_le (by omega)] at h1
    obtain rfl : j = l.length := by omega
    have hg : Good l := ⟨h1, h2⟩
    refine ⟨fun _ => Ev.step (f := fun _ => some (decide ((l.length : Int) ≤ 120))) (fun k => ?_) (Ev.now _), fun h => absurd hg h⟩
    simp only [spec_l16Times.l0]
    rw [if_neg (by omega)]
  | succ d ih =>
    intro j hj h1 h2
    have hlt : j < l.length := by omega
    by_cases hx : 0 ≤ l[j] ∧ l[j] ≤ 253402300799
    · by_cases hs : j = 0 ∨ l.getD (j - 1) 0 ≤ l.getD j 0
      · obtain ⟨i1, i2⟩ := ih (j + 1) (by omega) (fun n hm => by
          rw [List.take_succ_eq_append_getElem hlt, List.mem_append] at hm
          rcases hm with hm | hm
          · exact h1 n hm
          · rw [List.mem_singleton.1 hm]; exact hx) (fun i hi => by
          by_cases e : i + 1 < j
          · exact h2 i e
          · obtain rfl : j = i + 1 := by omega
            rcases hs with hs | hs
            · omega
            · simpa using hs)
        have step : ∀ k, spec_l16Times.l0 (k + 1) l l (l.length : Int) (j : Int) = spec_l16Times.l0 k l l (l.length : Int) ((j + 1 : Nat) : Int) := by
          intro k
          simp only [spec_l16Times.l0]
          rw [if_pos (by omega), if_pos (by omega), if_pos (by omega), l1In_eq, rdj, getD_at hlt]
          simp only [Option.bind_some, decide_eq_true_eq]
          rw [if_pos hx, wj (n := l.length) hlt (by omega)]
          by_cases h0 : j = 0
          · subst h0; rw [if_neg (by omega)]
          · rw [if_pos (by omega), w64 (x := (j : Int) - 1) (by omega) (by omega), if_pos (by omega), if_pos (by omega), show (j : Int) - 1 = ((j - 1 : Nat) : Int) from by omega, rdj, if_neg]
            rcases hs with hs | hs
            · omega
            · rw [getD_at hlt] at hs; omega
        exact ⟨fun g => Ev.step step (i1 g), fun g => Ev.step step (i2 g)⟩
      · have hng : ¬ Good l := fun g => hs (.inr (by have := g.2 (j - 1) (by omega); rwa [show j - 1 + 1 = j from by omega] at this))
        refine ⟨fun g => absurd g hng, fun _ => Ev.step (f := fun _ => some false) (fun k => ?_) (Ev.now _)⟩
        have h0 : j ≠ 0 := fun e => hs (.inl e)
        have hs2 : ¬ l.getD (j - 1) 0 ≤ l.getD j 0 := fun e => hs (.inr e)
        simp only [spec_l16Times.l0]
        rw [if_pos (by omega), if_pos (by omega), if_pos (by omega), l1In_eq, rdj, getD_at hlt]
        simp only [Option.bind_some, decide_eq_true_eq]
        rw [if_pos hx, if_pos (by omega), w64 (x := (j : Int) - 1) (by omega) (by omega), if_pos (by omega), if_pos (by omega), show (j : Int) - 1 = ((j - 1 : Nat) : Int) from by omega, rdj, if_pos]
        rw [getD_at hlt] at hs2; omega
    · have hng : ¬ Good l := fun g => hx (g.1 _ (List.getElem_mem hlt))
      refine ⟨fun g => absurd g hng, fun _ => Ev.step (f := fun _ => some false) (fun k => ?_) (Ev.now _)⟩
      simp only [spec_l16Times.l0]
      rw [if_pos (by omega), if_pos (by omega), if_pos (by omega), l1In_eq, rdj, getD_at hlt]
      simp only [Option.bind_some, decide_eq_true_eq]
      rw [if_neg hx]
theorem l16Times_ev (l : List Int) (hn : l.length ≤ 1048576) : (Good l → Ev (fun k => spec_l16Times.f k l) (decide ((l.length : Int) ≤ 120))) ∧ (¬ Good l → Ev (fun k => spec_l16Times.f k l) false) :=
  l16Times_l l hn l.length 0 (by omega) (by simp) (fun i hi => by omega)
theorem Less_eq (a b : Int) : cmp_Less_int.f a b = some (decide (a < b)) := by
  unfold cmp_Less_int.f cmp_isNaN_int.f; simp
theorem IsSorted_l (l : List Int) (hn : l.length ≤ 1048576) : ∀ (j : Nat), j < l.length ∨ l.length = 0 ∧ j = 0 → (∀ i, j ≤ i → i + 1 < l.length → l.getD i 0 ≤ l.getD (i + 1) 0) →
    ((∀ i, i + 1 < l.length → l.getD i 0 ≤ l.getD (i + 1) 0) → Ev (fun k => slices_IsSorted_int_int.l0 k l (j : Int)) true) ∧ (¬ (∀ i, i + 1 < l.length → l.getD i 0 ≤ l.getD (i + 1) 0) → Ev (fun k => slices_IsSorted_int_int.l0 k l (j : Int)) false)
  | 0, _, h2 => by
    refine ⟨fun _ => Ev.step (f := fun _ => some true) (fun k => ?_) (Ev.now _), fun g => absurd (fun i hi => h2 i (Nat.zero_le _) hi) g⟩
    simp only [slices_IsSorted_int_int.l0]
    rw [if_neg (by omega)]
  | j + 1, h1, h2 => by
    have hlt : j + 1 < l.length := by omega
    have e : wrap64 (((j + 1 : Nat) : Int) - 1) = (j : Int) := by rw [w64 (by omega) (by omega)]; omega
    by_cases hs : l.getD j 0 ≤ l.getD (j + 1) 0
    · obtain ⟨i1, i2⟩ := IsSorted_l l hn j (.inl (by omega)) (fun i hi hi2 => by
        by_cases e : i = j
        · subst e; exact hs
        · exact h2 i (by omega) hi2)
      have step : ∀ k, slices_IsSorted_int_int.l0 (k + 1) l ((j + 1 : Nat) : Int) = slices_IsSorted_int_int.l0 k l (j : Int) := by
        intro k
        simp only [slices_IsSorted_int_int.l0]
        rw [if_pos (by omega), if_pos (by omega), if_pos (by omega), e, if_pos (by omega), if_pos (by omega), Less_eq, rdj, rdj]
        simp only [Option.bind_some, decide_eq_true_eq]
        rw [if_neg (by omega)]
      exact ⟨fun g => Ev.step step (i1 g), fun g => Ev.step step (i2 g)⟩
    · refine ⟨fun g => absurd (g j hlt) hs, fun _ => Ev.step (f := fun _ => some false) (fun k => ?_) (Ev.now _)⟩
      simp only [slices_IsSorted_int_int.l0]
      rw [if_pos (by omega), if_pos (by omega), if_pos (by omega), e, if_pos (by omega), if_pos (by omega), Less_eq, rdj, rdj]
      simp only [Option.bind_some, decide_eq_true_eq]
      rw [if_pos (by omega)]
theorem IsSorted_ev (l : List Int) (hn : l.length ≤ 1048576) : ((∀ i, i + 1 < l.length → l.getD i 0 ≤ l.getD (i + 1) 0) → Ev (fun k => slices_IsSorted_int_int.f k l) true) ∧ (¬ (∀ i, i + 1 < l.length → l.getD i 0 ≤ l.getD (i + 1) 0) → Ev (fun k => slices_IsSorted_int_int.f k l) false) := by
  by_cases h0 : l.length = 0
  · refine ⟨fun _ => Ev.step (f := fun _ => some true) (fun k => ?_) (Ev.now _), fun g => absurd (fun i hi => by omega) g⟩
    simp only [slices_IsSorted_int_int.f, slices_IsSorted_int_int.l0, h0]
    rw [if_neg (by rw [w64 (by omega) (by omega)]; omega)]
  · have := IsSorted_l l hn (l.length - 1) (.inl (by omega)) (fun i hi hi2 => by omega)
    unfold slices_IsSorted_int_int.f
    rw [show wrap64 ((l.length : Int) - 1) = ((l.length - 1 : Nat) : Int) from by rw [w64 (by omega) (by omega)]; omega]
    exact this
theorem areTimes_eq (l : List Int) : impl_areAll_int__60.f l = some (l.all fun n => decide (0 ≤ n ∧ n ≤ 253402300799)) :=
  allO_all (fun x => by unfold impl_isTime.f; rw [within_eq]; rfl) l

/-- When the next one may come. -/
def due (e s : Int) (ts : List Int) : Nat → Int
  | 0 => 0
  | j + 1 => if due e s ts j > ts.getD j 0 + s then due e s ts j else (if due e s ts j < ts.getD j 0 then ts.getD j 0 else due e s ts j) + e
def comes (e s : Int) (ts : List Int) (j : Nat) : Bool := !decide (due e s ts j > ts.getD j 0 + s)
def outs (e s : Int) (ts : List Int) (n : Nat) : List Bool := (List.range n).map (comes e s ts)
theorem outs_succ (e s : Int) (ts : List Int) (j : Nat) : outs e s ts (j + 1) = outs e s ts j ++ [comes e s ts j] := by simp [outs, List.range_succ]
theorem outs_length (e s : Int) (ts : List Int) (j : Nat) : (outs e s ts j).length = j := by simp [outs]
def Rate (e s : Int) : Prop := (1 ≤ e ∧ e ≤ 10000) ∧ 0 ≤ s ∧ s ≤ 100000
instance (e s : Int) : Decidable (Rate e s) := by unfold Rate; infer_instance
theorem good_at {ts : List Int} (hg : Good ts) {j : Nat} (hj : j < ts.length) : 0 ≤ ts.getD j 0 ∧ ts.getD j 0 ≤ 253402300799 := by
  rw [getD_at hj]; exact hg.1 _ (List.getElem_mem hj)
theorem due_room {e s : Int} {ts : List Int} (hr : Rate e s) (hg : Good ts) : ∀ j, j ≤ ts.length → 0 ≤ due e s ts j ∧ due e s ts j ≤ 253402300799 + s + e
  | 0, _ => by
    obtain ⟨_, _⟩ := hr
    simp only [due]; omega
  | j + 1, hj => by
    have h1 := due_room hr hg j (by omega)
    have h2 := good_at hg (j := j) (by omega)
    obtain ⟨⟨_, _⟩, _, _⟩ := hr
    simp only [due]
    split
    · exact h1
    · split <;> omega
theorem pacer_at {e s : Int} {ts : List Int} (hr : Rate e s) (hg : Good ts) {j : Nat} (hj : j < ts.length) :
    impl_Pacer_take.f e s (due e s ts j) (ts.getD j 0) = some (comes e s ts j, e, s, due e s ts (j + 1)) ∧
    spec_l16Pacer.f e s (due e s ts j) (ts.getD j 0) = some (e, s, due e s ts (j + 1), comes e s ts j) := by
  have h1 := due_room hr hg j (by omega)
  have h2 := good_at hg hj
  obtain ⟨⟨_, _⟩, _, _⟩ := hr
  unfold impl_Pacer_take.f spec_l16Pacer.f mx comes
  simp only [due]
  rw [w64 (x := ts.getD j 0 + s) (by omega) (by omega)]
  generalize due e s ts j = d at *
  generalize ts.getD j 0 = n at *
  by_cases c : d > n + s
  · simp only [if_pos c, decide_eq_true c]; exact ⟨rfl, rfl⟩
  · simp only [if_neg c, decide_eq_false c]
    by_cases c2 : d < n
    · simp only [if_pos c2]; rw [w64 (x := n + e) (by omega) (by omega)]; exact ⟨rfl, rfl⟩
    · simp only [if_neg c2]; rw [w64 (x := d + e) (by omega) (by omega)]; exact ⟨rfl, rfl⟩
theorem playp_run {e s : Int} {ts : List Int} (hr : Rate e s) (hg : Good ts) (hn : ts.length ≤ 120) (d : Nat) : ∀ (j : Nat), j + d = ts.length →
    Ev (fun k => impl_playTimes_m44.l0 k (outs e s ts j) ts (ts.length : Int) (j : Int) e s (due e s ts j)) (outs e s ts ts.length, true, e, s, due e s ts ts.length) := by
  induction d with
  | zero =>
    intro j hj
    obtain rfl : j = ts.length := by omega
    refine Ev.step (f := fun _ => some (outs e s ts ts.length, true, e, s, due e s ts ts.length)) (fun k => ?_) (Ev.now _)
    simp only [impl_playTimes_m44.l0]; rw [if_neg (by omega)]
  | succ d ih =>
    intro j hj
    have h := ih (j + 1) (by omega)
    rw [outs_succ] at h
    refine Ev.step (fun k => ?_) h
    simp only [impl_playTimes_m44.l0]
    rw [if_pos (by omega), if_pos (by omega), if_pos (by omega), rdj, (pacer_at hr hg (j := j) (by omega)).1]
    simp only [Option.bind_some]
    rw [if_pos (by rw [outs_length]; omega), wj (n := ts.length) (by omega) (by omega)]
theorem PlayPacer_is (e s : Int) (ts : List Int) (hn : ts.length ≤ 1048576) : 
    (Rate e s ∧ Good ts ∧ ts.length ≤ 120 → Ev (fun k => impl_PlayPacer.f k e s ts) (outs e s ts ts.length, true)) ∧ (¬ (Rate e s ∧ Good ts ∧ ts.length ≤ 120) → Ev (fun k => impl_PlayPacer.f k e s ts) ([], false)) := by
  have ij : ∀ a b c : Int, Ev (fun k => impl_playTimes_m44.j0 k ts true a b c) ([], false, a, b, c) := fun a b c =>
    Ev.step (f := fun _ => some ([], false, a, b, c)) (fun k => by simp [impl_playTimes_m44.j0]) (Ev.now _)
  have fin : ∀ {r : List Bool × Bool} {a b c : Int}, Ev (fun k => impl_playTimes_m44.f k e s ts e s 0) (r.1, r.2, a, b, c) → Ev (fun k => impl_PlayPacer.f k e s ts) r := by
    intro r a b c h
    unfold impl_PlayPacer.f
    exact Ev.bind h (Ev.now _)
  have eR : impl_isRate.f e s = some (decide (Rate e s)) := by rw [isRate_said, l16Said_eq]; rfl
  constructor
  · rintro ⟨hr, hg, h120⟩
    refine fin (r := (_, true)) (a := e) (b := s) (c := due e s ts ts.length) ?_
    unfold impl_playTimes_m44.f
    simp only [eR, decide_eq_true hr, Option.bind_some, if_true, areTimes_eq]
    have h3 : ¬ (ts.length : Int) > 120 := by omega
    have h4 : (ts.all fun n => decide (0 ≤ n ∧ n ≤ 253402300799)) = true := List.all_eq_true.2 (fun n hm => by simpa using hg.1 n hm)
    simp only [if_neg h3, if_pos h4]
    refine Ev.bind ((IsSorted_ev ts hn).1 hg.2) ?_
    refine Ev.step (f := fun k => impl_playTimes_m44.l0 k [] ts (ts.length : Int) 0 e s 0) (fun k => ?_) (playp_run hr hg h120 ts.length 0 (by omega))
    simp [impl_playTimes_m44.j0]
  · intro hno
    refine fin (r := ([], false)) (a := e) (b := s) (c := 0) ?_
    unfold impl_playTimes_m44.f
    simp only [eR, Option.bind_some, areTimes_eq, decide_eq_true_eq]
    by_cases hr : Rate e s
    · simp only [if_pos hr]
      by_cases h1 : (ts.length : Int) > 120
      · simp only [if_pos h1]; exact ij _ _ _
      · simp only [if_neg h1]
        by_cases h2 : (ts.all fun n => decide (0 ≤ n ∧ n ≤ 253402300799)) = true
        · simp only [if_pos h2]
          refine Ev.bind ((IsSorted_ev ts hn).2 (fun h3 => hno ⟨hr, ⟨fun n hm => by simpa using (List.all_eq_true.1 h2 n hm), h3⟩, by omega⟩)) (ij _ _ _)
        · simp only [if_neg h2]; exact ij _ _ _
    · simp only [if_neg hr]; exact ij _ _ _
theorem sameBools_l (l : List Bool) (hn : l.length ≤ 1048576) (d : Nat) : ∀ (j : Nat), j + d = l.length → Ev (fun k => laws_sameBools.l0 k l l (l.length : Int) (j : Int)) true := by
  induction d with
  | zero =>
    intro j hj
    refine Ev.step (f := fun _ => some true) (fun k => ?_) (Ev.now _)
    simp only [laws_sameBools.l0]; rw [if_neg (by omega)]
  | succ d ih =>
    intro j hj
    refine Ev.step (fun k => ?_) (ih (j + 1) (by omega))
    simp only [laws_sameBools.l0]
    rw [if_pos (by omega), if_pos (by omega), if_pos (by omega), if_pos (by omega), if_neg (by simp), wj (n := l.length) (by omega) (by omega)]
theorem sameBools_ev (l : List Bool) (hn : l.length ≤ 1048576) : Ev (fun k => laws_sameBools.f k l l) true := by
  unfold laws_sameBools.f
  simp only [if_true]
  exact sameBools_l l hn l.length 0 (by omega)

theorem bucket_at {e s l t : Int} {ts : List Int} (hr : Rate e s) (hg : Good ts) {j : Nat} (hj : j < ts.length) (hd : l + t = due e s ts j) (l0 : 0 ≤ l) (l1 : l ≤ 110000) (t0 : 0 ≤ t) (t1 : t ≤ 253402300799) :
    ∃ l' t', impl_Bucket_take.f e s l t (ts.getD j 0) = some (comes e s ts j, e, s, l', t') ∧
      spec_l16Bucket.f e s l t (ts.getD j 0) = some (e, s, l', t', comes e s ts j) ∧ l' + t' = due e s ts (j + 1) ∧ 0 ≤ l' ∧ l' ≤ 110000 ∧ 0 ≤ t' ∧ t' ≤ 253402300799 := by
  have h1 := due_room hr hg j (by omega)
  have h2 := good_at hg hj
  obtain ⟨⟨_, _⟩, _, _⟩ := hr
  unfold impl_Bucket_take.f spec_l16Bucket.f mx comes
  simp only [due]
  rw [w64 (x := ts.getD j 0 - t) (by omega) (by omega), w64 (x := l - (ts.getD j 0 - t)) (by omega) (by omega)]
  generalize due e s ts j = d at *
  generalize ts.getD j 0 = n at *
  by_cases c : d > n + s
  · simp only [if_pos c, decide_eq_true c]
    rw [if_neg (show ¬ l - (n - t) < 0 by omega), if_pos (by omega), if_neg (by omega), if_pos (by omega)]
    exact ⟨_, _, rfl, rfl, hd, l0, l1, t0, t1⟩
  · simp only [if_neg c, decide_eq_false c]
    by_cases c2 : l - (n - t) < 0
    · rw [if_pos c2, if_neg (by omega), if_pos c2, if_neg (by omega), if_pos (by omega), Int.zero_add]
      exact ⟨_, _, rfl, rfl, by rw [w64 (by omega) (by omega)]; omega, by rw [w64 (by omega) (by omega)]; omega, by rw [w64 (by omega) (by omega)]; omega, by omega, by omega⟩
    · rw [if_neg c2, if_neg (by omega), if_neg c2, if_neg (by omega)]
      refine ⟨_, _, rfl, rfl, ?_, ?_, ?_, by omega, by omega⟩
      · rw [w64 (by omega) (by omega)]; split <;> omega
      · rw [w64 (by omega) (by omega)]; omega
      · rw [w64 (by omega) (by omega)]; omega
theorem playb_run {e s : Int} {ts : List Int} (hr : Rate e s) (hg : Good ts) (hn : ts.length ≤ 120) (d : Nat) : ∀ (j : Nat) (l t : Int), j + d = ts.length → l + t = due e s ts j → 0 ≤ l → l ≤ 110000 → 0 ≤ t → t ≤ 253402300799 →
    ∃ l' t', Ev (fun k => impl_playTimes_m53.l0 k (outs e s ts j) ts (ts.length : Int) (j : Int) e s l t) (outs e s ts ts.length, true, e, s, l', t') ∧
      Ev (fun k => spec_PlayBucket.l0 k (outs e s ts j) ts (ts.length : Int) (j : Int) e s l t) (outs e s ts ts.length, true) := by
  induction d with
  | zero =>
    intro j l t hj _ _ _ _ _
    obtain rfl : j = ts.length := by omega
    refine ⟨l, t, Ev.step (f := fun _ => some (outs e s ts ts.length, true, e, s, l, t)) (fun k => ?_) (Ev.now _), Ev.step (f := fun _ => some (outs e s ts ts.length, true)) (fun k => ?_) (Ev.now _)⟩
    · simp only [impl_playTimes_m53.l0]; rw [if_neg (by omega)]
    · simp only [spec_PlayBucket.l0]; rw [if_neg (by omega)]
  | succ d ih =>
    intro j l t hj hd l0 l1 t0 t1
    obtain ⟨l', t', g1, g2, hd', a0, a1, b0, b1⟩ := bucket_at hr hg (j := j) (by omega) hd l0 l1 t0 t1
    obtain ⟨l2, t2, h1, h2⟩ := ih (j + 1) l' t' (by omega) hd' a0 a1 b0 b1
    rw [outs_succ] at h1 h2
    refine ⟨l2, t2, Ev.step (fun k => ?_) h1, Ev.step (fun k => ?_) h2⟩
    · simp only [impl_playTimes_m53.l0]
      rw [if_pos (by omega), if_pos (by omega), if_pos (by omega), rdj, g1]
      simp only [Option.bind_some]
      rw [if_pos (by rw [outs_length]; omega), wj (n := ts.length) (by omega) (by omega)]
    · simp only [spec_PlayBucket.l0]
      rw [if_pos (by omega), if_pos (by omega), if_pos (by omega), rdj, g2]
      simp only [Option.bind_some]
      rw [if_pos (by rw [outs_length]; omega), wj (n := ts.length) (by omega) (by omega)]
theorem PlayBucket_is (e s : Int) (ts : List Int) (hn : ts.length ≤ 1048576) : 
    (Rate e s ∧ Good ts ∧ ts.length ≤ 120 → Ev (fun k => impl_PlayBucket.f k e s ts) (outs e s ts ts.length, true) ∧ Ev (fun k => spec_PlayBucket.f k e s ts) (outs e s ts ts.length, true)) ∧
    (¬ (Rate e s ∧ Good ts ∧ ts.length ≤ 120) → Ev (fun k => impl_PlayBucket.f k e s ts) ([], false) ∧ Ev (fun k => spec_PlayBucket.f k e s ts) ([], false)) := by
  have ij : ∀ a b c d : Int, Ev (fun k => impl_playTimes_m53.j0 k ts true a b c d) ([], false, a, b, c, d) := fun a b c d =>
    Ev.step (f := fun _ => some ([], false, a, b, c, d)) (fun k => by simp [impl_playTimes_m53.j0]) (Ev.now _)
  have sj : ∀ a b c d : Int, Ev (fun k => spec_PlayBucket.j0 k ts true a b c d) ([], false) := fun a b c d =>
    Ev.step (f := fun _ => some ([], false)) (fun k => by simp [spec_PlayBucket.j0]) (Ev.now _)
  have fin : ∀ {r : List Bool × Bool} {a b c d : Int}, Ev (fun k => impl_playTimes_m53.f k e s ts e s 0 0) (r.1, r.2, a, b, c, d) → Ev (fun k => impl_PlayBucket.f k e s ts) r := by
    intro r a b c d h
    unfold impl_PlayBucket.f
    exact Ev.bind h (Ev.now _)
  have eR : impl_isRate.f e s = some (decide (Rate e s)) := by rw [isRate_said, l16Said_eq]; rfl
  have eS : spec_l16Said.f e s = some (decide (Rate e s)) := by rw [l16Said_eq]; rfl
  constructor
  · rintro ⟨hr, hg, h120⟩
    obtain ⟨l', t', h1, h2⟩ := playb_run hr hg h120 ts.length 0 0 0 (by omega) rfl (by omega) (by omega) (by omega) (by omega)
    constructor
    · refine fin (r := (_, true)) (a := e) (b := s) (c := l') (d := t') ?_
      unfold impl_playTimes_m53.f
      simp only [eR, decide_eq_true hr, Option.bind_some, if_true, areTimes_eq]
      have h3 : ¬ (ts.length : Int) > 120 := by omega
      have h4 : (ts.all fun n => decide (0 ≤ n ∧ n ≤ 253402300799)) = true := List.all_eq_true.2 (fun n hm => by simpa using hg.1 n hm)
      simp only [if_neg h3, if_pos h4]
      refine Ev.bind ((IsSorted_ev ts hn).1 hg.2) ?_
      refine Ev.step (f := fun k => impl_playTimes_m53.l0 k [] ts (ts.length : Int) 0 e s 0 0) (fun k => ?_) h1
      simp [impl_playTimes_m53.j0]
    · unfold spec_PlayBucket.f spec_NewBucket.f
      simp only [eS, decide_eq_true hr, Option.bind_some, if_true]
      refine Ev.bind ((l16Times_ev ts hn).1 hg) ?_
      rw [decide_eq_true (by omega)]
      refine Ev.step (f := fun k => spec_PlayBucket.l0 k [] ts (ts.length : Int) 0 e s 0 0) (fun k => ?_) h2
      simp [spec_PlayBucket.j0]
  · intro hno
    constructor
    · refine fin (r := ([], false)) (a := e) (b := s) (c := 0) (d := 0) ?_
      unfold impl_playTimes_m53.f
      simp only [eR, Option.bind_some, areTimes_eq, decide_eq_true_eq]
      by_cases hr : Rate e s
      · simp only [if_pos hr]
        by_cases h1 : (ts.length : Int) > 120
        · simp only [if_pos h1]; exact ij _ _ _ _
        · simp only [if_neg h1]
          by_cases h2 : (ts.all fun n => decide (0 ≤ n ∧ n ≤ 253402300799)) = true
          · simp only [if_pos h2]
            refine Ev.bind ((IsSorted_ev ts hn).2 (fun h3 => hno ⟨hr, ⟨fun n hm => by simpa using (List.all_eq_true.1 h2 n hm), h3⟩, by omega⟩)) (ij _ _ _ _)
          · simp only [if_neg h2]; exact ij _ _ _ _
      · simp only [if_neg hr]; exact ij _ _ _ _
    · unfold spec_PlayBucket.f spec_NewBucket.f
      by_cases hr : Rate e s
      · simp only [eS, decide_eq_true hr, Option.bind_some, if_true]
        by_cases hg : Good ts
        · refine Ev.bind ((l16Times_ev ts hn).1 hg) ?_
          rw [decide_eq_false (by intro h; exact hno ⟨hr, hg, by omega⟩)]
          exact sj _ _ _ _
        · exact Ev.bind ((l16Times_ev ts hn).2 hg) (sj _ _ _ _)
      · simp only [eS, decide_eq_false hr, Option.bind_some]
        simpa using sj 0 0 0 0

theorem pacer_same (e s d n : Int) : ∃ b e' s' d', spec_l16Pacer.f e s d n = some (e', s', d', b) ∧ impl_Pacer_take.f e s d n = some (b, e', s', d') := by
  unfold spec_l16Pacer.f impl_Pacer_take.f mx
  by_cases h : d > wrap64 (n + s)
  · rw [if_pos h, if_pos h]; exact ⟨_, _, _, _, rfl, rfl⟩
  · rw [if_neg h, if_neg h]
    by_cases h2 : d < n
    · rw [if_pos h2, if_pos h2]; exact ⟨_, _, _, _, rfl, rfl⟩
    · rw [if_neg h2, if_neg h2]; exact ⟨_, _, _, _, rfl, rfl⟩
theorem TakePacer_both (e s d n : Int) : ∃ r, impl_TakePacer.f e s d n = some r ∧ spec_TakePacer.f e s d n = some r := by
  unfold impl_TakePacer.f spec_TakePacer.f impl_isPacer.f spec_l16Good.f impl_isTime.f
  simp only [isRate_said, l16Said_eq, within_eq, l1In_eq, Option.bind_some, decide_eq_true_eq]
  obtain ⟨b, e', s', d', g1, g2⟩ := pacer_same e s d n
  simp only [g1, g2, Option.bind_some]
  by_cases h1 : (1 ≤ e ∧ e ≤ 10000) ∧ 0 ≤ s ∧ s ≤ 100000
  · by_cases h2 : 0 ≤ d ∧ d ≤ wrap64 (wrap64 (253402300799 + s) + e)
    · by_cases h3 : 0 ≤ n ∧ n ≤ 253402300799
      · simp [h1, h2, h3]
      · simp [h1, h2, h3]
    · simp [h1, h2]
  · simp [h1]

theorem drawTake_ok {l : List Int} (hl : Byt l) : ∃ e s d n, spec_DrawTakePacer.f l = some (e, s, d, n) ∧ -1 ≤ d ∧ d ≤ 99 ∧ -1 ≤ n ∧ n ≤ 99 := by
  unfold spec_DrawTakePacer.f
  obtain ⟨e, s, a, q, h, _, _, _, _, ha0, ha1⟩ := rate_ok hl
  obtain ⟨r1, a1, s1, e1, p1, q1, u1, v1⟩ := pick_ok hl a q 100 (by omega) (by omega)
  obtain ⟨r2, a2, s2, e2, p2, q2, u2, v2⟩ := pick_ok hl a1 s1 2 (by omega) (by omega)
  obtain ⟨r3, a3, s3, e3, p3, q3, u3, v3⟩ := pick_ok hl a2 s2 100 (by omega) (by omega)
  obtain ⟨r4, a4, s4, e4, p4, q4, u4, v4⟩ := pick_ok hl a3 s3 2 (by omega) (by omega)
  simp only [h, e1, e2, e3, e4, Option.bind_some]
  rw [w64 (x := r1 - r2) (by omega) (by omega), w64 (x := r3 - r4) (by omega) (by omega)]
  exact ⟨_, _, _, _, rfl, by omega, by omega, by omega, by omega⟩
theorem TakePacer_is (e s d n : Int) : ((Rate e s ∧ 0 ≤ d ∧ d ≤ 99 ∧ 0 ≤ n ∧ n ≤ 200000) → ∃ d', impl_TakePacer.f e s d n = some (e, s, d', !decide (d > n + s), true)) ∧
    (¬ (Rate e s ∧ 0 ≤ d ∧ 0 ≤ n) → d ≤ 99 → n ≤ 99 → impl_TakePacer.f e s d n = some (0, 0, 0, false, false)) := by
  have eR : impl_isRate.f e s = some (decide (Rate e s)) := by rw [isRate_said, l16Said_eq]; rfl
  unfold impl_TakePacer.f impl_isPacer.f impl_isTime.f
  simp only [eR, within_eq, Option.bind_some, decide_eq_true_eq]
  constructor
  · rintro ⟨hr, h0, h1, h2, h3⟩
    obtain ⟨⟨_, _⟩, _, _⟩ := hr
    have hr : Rate e s := ⟨⟨by omega, by omega⟩, by omega, by omega⟩
    rw [w64 (x := 253402300799 + s) (by omega) (by omega), w64 (x := 253402300799 + s + e) (by omega) (by omega)]
    simp only [if_pos hr, Option.bind_some, decide_eq_true_eq]
    rw [if_pos (by omega), if_pos (by omega)]
    unfold impl_Pacer_take.f
    rw [w64 (x := n + s) (by omega) (by omega)]
    by_cases c : d > n + s
    · rw [if_pos c]; exact ⟨_, by simp [c]; rfl⟩
    · rw [if_neg c]; exact ⟨_, by simp [c]; rfl⟩
  · intro h hd hn
    by_cases hr : Rate e s
    · obtain ⟨⟨_, _⟩, _, _⟩ := hr
      have hr : Rate e s := ⟨⟨by omega, by omega⟩, by omega, by omega⟩
      rw [w64 (x := 253402300799 + s) (by omega) (by omega), w64 (x := 253402300799 + s + e) (by omega) (by omega)]
      simp only [if_pos hr, Option.bind_some, decide_eq_true_eq]
      by_cases h0 : 0 ≤ d
      · rw [if_pos (by omega), if_neg (by intro h1; exact h ⟨hr, h0, h1.1⟩)]
      · rw [if_neg (by omega)]
    · simp [hr]
theorem WaitFor_is (e s d n : Int) (hr : Rate e s) (h0 : 0 ≤ d) (h1 : d ≤ 99) (h2 : 0 ≤ n) (h3 : n ≤ 99) : impl_WaitFor.f e s d n = some (if d - s - n < 0 then 0 else d - s - n, true) := by
  have eR : impl_isRate.f e s = some (decide (Rate e s)) := by rw [isRate_said, l16Said_eq]; rfl
  obtain ⟨⟨_, _⟩, _, _⟩ := hr
  have hr : Rate e s := ⟨⟨by omega, by omega⟩, by omega, by omega⟩
  unfold impl_WaitFor.f impl_isPacer.f impl_isTime.f mx
  simp only [eR, within_eq, Option.bind_some, decide_eq_true_eq]
  rw [w64 (x := 253402300799 + s) (by omega) (by omega), w64 (x := 253402300799 + s + e) (by omega) (by omega)]
  simp only [if_pos hr, Option.bind_some, decide_eq_true_eq]
  rw [if_pos (by omega), if_pos (by omega), w64 (x := d - s) (by omega) (by omega), w64 (x := d - s - n) (by omega) (by omega)]
theorem paced_end {l : List Int} (hl : Byt l) : Ev (fun k => laws_FnPaced.j0 k l false) true := by
  obtain ⟨e, s, d, n, hd, d0, d1, n0, n1⟩ := drawTake_ok hl
  obtain ⟨r, t1, t2⟩ := TakePacer_both e s d n
  have stop : ∀ a b c f : Int, ∀ q : Bool, q = true → Ev (fun k => laws_FnPaced.j2 k a b (!q) c f 0) true → True := fun _ _ _ _ _ _ _ => trivial
  refine Ev.step (f := fun k => laws_FnPaced.j1 k n r.2.2.2.1 r.2.2.2.2 false e s d) (fun k => ?_) ?_
  · simp only [laws_FnPaced.j0, hd, t1, t2, Option.bind_some]
    simp
  by_cases h : Rate e s ∧ 0 ≤ d ∧ 0 ≤ n
  · obtain ⟨hr, hd0, hn0⟩ := h
    obtain ⟨d', g1⟩ := (TakePacer_is e s d n).1 ⟨hr, hd0, d1, hn0, by omega⟩
    rw [t1] at g1
    have g1 := Option.some.inj g1
    subst g1
    have hw := WaitFor_is e s d n hr hd0 d1 hn0 n1
    have hs := hr.2
    by_cases c : d > n + s
    · have ew : (if d - s - n < 0 then 0 else d - s - n) = d - s - n := if_neg (by omega)
      rw [ew] at hw
      obtain ⟨d2, g2⟩ := (TakePacer_is e s d (n + (d - s - n))).1 ⟨hr, hd0, d1, by omega, by omega⟩
      obtain ⟨d3, g3⟩ := (TakePacer_is e s d (n + (d - s - n) - 1)).1 ⟨hr, hd0, d1, by omega, by omega⟩
      rw [decide_eq_false (by omega)] at g2
      rw [decide_eq_true (by omega)] at g3
      refine Ev.step (f := fun k => laws_FnPaced.j2 k n (d - s - n) false e s d) (fun k => ?_) (Ev.step (f := fun _ => some true) (fun k => ?_) (Ev.now _))
      · simp only [laws_FnPaced.j1, hw, Option.bind_some]
        rw [w64 (x := n + (d - s - n)) (by omega) (by omega), g2]
        simp [c]; omega
      · simp only [laws_FnPaced.j2]
        rw [if_neg (by simp), if_pos (by omega), w64 (x := n + (d - s - n)) (by omega) (by omega), w64 (x := n + (d - s - n) - 1) (by omega) (by omega), g3]
        simp
    · have ew : (if d - s - n < 0 then 0 else d - s - n) = 0 := by split <;> omega
      rw [ew] at hw
      refine Ev.step (f := fun k => laws_FnPaced.j2 k n 0 false e s d) (fun k => ?_) (Ev.step (f := fun _ => some true) (fun k => ?_) (Ev.now _))
      · simp only [laws_FnPaced.j1, hw, Option.bind_some]
        obtain ⟨d2, g2⟩ := (TakePacer_is e s d n).1 ⟨hr, hd0, d1, hn0, by omega⟩
        rw [Int.add_zero, w64 (x := n) (by omega) (by omega), g2]
        simp [c]
      · simp only [laws_FnPaced.j2]
        rw [if_neg (by simp), if_neg (by omega)]
  · have g := (TakePacer_is e s d n).2 h d1 n1
    rw [t1] at g
    have g := Option.some.inj g
    subst g
    refine Ev.step (f := fun _ => some true) (fun k => ?_) (Ev.now _)
    simp [laws_FnPaced.j1]
theorem FnPaced : laws_FnPaced.Pure := by
  intro l0 l1 _ _ hl0 _ _ hl1
  refine Ev.law ?_
  unfold laws_FnPaced.f
  by_cases hn : wrap64 ((l0.length : Int) + (l1.length : Int)) > 1048576
  · exact Ev.congr (fun k => by rw [if_pos hn]) (Ev.now _)
  simp only [if_neg hn]
  obtain ⟨e, s, ts, hd, ht, _⟩ := drawPlay_ok (byt_of hl0)
  refine Ev.bind hd ?_
  have hp := PlayPacer_is e s ts (by omega)
  have hb := PlayBucket_is e s ts (by omega)
  have fin : ∀ (r : List Bool × Bool), r.1.length ≤ 1048576 → Ev (fun k => impl_PlayBucket.f k e s ts) r → Ev (fun k => spec_PlayBucket.f k e s ts) r → Ev (fun k => impl_PlayPacer.f k e s ts) r → 
      Ev (fun k => (impl_PlayBucket.f k e s ts).bind fun bt313 => ((spec_PlayBucket.f k e s ts).bind fun bt317 => ((impl_PlayPacer.f k e s ts).bind fun bt321 => (if (bt313.2 != bt317.2) = true then (laws_FnPaced.j0 k l1 true) else (if (bt321.2 != bt317.2) = true then (laws_FnPaced.j0 k l1 true) else ((laws_sameBools.f k bt313.1 bt317.1).bind fun t325 => (if t325 = true then ((laws_sameBools.f k bt313.1 bt321.1).bind fun t326 => (laws_FnPaced.j0 k l1 (!t326))) else (laws_FnPaced.j0 k l1 true)))))))) true := by
    intro r hl h1 h2 h3
    refine Ev.bind h1 (Ev.bind h2 (Ev.bind h3 ?_))
    have e1 : ¬ ((r.2 != r.2) = true) := by simp
    simp only [if_neg e1]
    refine Ev.bind (sameBools_ev r.1 hl) ?_
    simp only [if_true]
    exact Ev.bind (sameBools_ev r.1 hl) (paced_end (byt_of hl1))
  by_cases h : Rate e s ∧ Good ts ∧ ts.length ≤ 120
  · exact fin _ (by simp only [outs_length]; omega) (hb.1 h).1 (hb.1 h).2 (hp.1 h)
  · exact fin _ (by simp) (hb.2 h).1 (hb.2 h).2 (hp.2 h)

end Go.Proofs.Ytobbhgghpjecjaa.Pure
