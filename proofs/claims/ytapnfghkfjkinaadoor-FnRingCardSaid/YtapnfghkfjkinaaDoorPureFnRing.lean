/- When a server goes only its own keys move, and to another one. -/
import Derived.Test.YtapnfghkfjkinaaDoorPFnRingx9
import Derived.Lib.RabinKarpLaws
namespace Go.Proofs.YtapnfghkfjkinaaDoor.Pure
open Go.RowKit Go.Proofs.YtapnfghkfjkinaaDoor.PFnRing Go.Proofs.YtapnfghkfjkinaaDoorW.PrintWords Go.Proofs.YtapnfghkfjkinaaDoorW.PrintLast Go.Proofs.YtapnfghkfjkinaaDoorW.PrintMore Go.Proofs.YtapnfghkfjkinaaDoorOwn
set_option linter.unusedVariables false
set_option linter.unusedSimpArgs false

theorem wj {j n : Nat} (h : j < n) (hn : n ≤ 4611686018427387904) : wrap64 ((j : Int) + 1) = ((j + 1 : Nat) : Int) := by
  unfold wrap64; omega
theorem w64 {x : Int} (h0 : -9223372036854775808 ≤ x) (h1 : x ≤ 9223372036854775807) : wrap64 x = x := by
  unfold wrap64; omega
theorem rdj (l : List Int) (j : Nat) : rd l (j : Int) = l.getD j 0 := rfl
theorem getD_at {α : Type} {l : List α} {j : Nat} (h : j < l.length) (z : α) : l.getD j z = l[j] := by
  rw [List.getD_eq_getElem?_getD, List.getElem?_eq_getElem h]; rfl
theorem Ev.law {g : Nat → Option Bool} (h : Ev g true) : ∃ k, g k = some true := h.rounds
theorem l1In_eq (a b c : Int) : spec_l1In.f a b c = some (decide (b ≤ a ∧ a ≤ c)) := by
  unfold spec_l1In.f; by_cases h : b ≤ a <;> simp [h]
theorem within_eq (a b c : Int) : impl_within.f a b c = some (decide (b ≤ a ∧ a ≤ c)) := by
  unfold impl_within.f; by_cases h : b ≤ a <;> simp [h]

--IMPORT Derived.Lib.RabinKarpLaws
/-- Bytes. -/
def Byt (l : List Int) : Prop := ∀ x ∈ l, 0 ≤ x ∧ x ≤ 255
theorem byt_of {l : List Int} (h : ∀ x ∈ l, (Lit.int .u8 x).wf = true) : Byt l := by
  intro x hx
  have := h x hx
  simp only [Lit.wf, IntKind.min, IntKind.max, IntKind.signed, IntKind.bits, Bool.and_eq_true, decide_eq_true_eq] at this
  simp at this; omega
theorem byt_rd {l : List Int} (hl : Byt l) (j : Nat) (hj : j < l.length) : 0 ≤ rd l (j : Int) ∧ rd l (j : Int) ≤ 255 := by
  rw [rdj, getD_at hj]; exact hl _ (List.getElem_mem hj)
theorem and255 (x : Int) : 0 ≤ Go.bits .and .u64 x 255 ∧ Go.bits .and .u64 x 255 ≤ 255 := by
  have e : ∀ z : Nat, z ≤ 255 → IntKind.u64.wrap (z : Int) = (z : Int) := by
    intro z hz; simp only [IntKind.wrap, IntKind.bits, IntKind.signed]; simp; omega
  have hz : ∀ y : Nat, y &&& 255 ≤ 255 := fun y => Nat.and_le_right
  have : ∃ z : Nat, z ≤ 255 ∧ Go.bits .and .u64 x 255 = (z : Int) := by
    refine ⟨_, hz (x % 18446744073709551616).toNat, ?_⟩
    rw [← e _ (hz _)]
    simp only [Go.bits, IntKind.bits]
    rfl
  obtain ⟨z, h1, h2⟩ := this
  rw [h2]; omega
theorem next_ok {l : List Int} (hl : Byt l) (a s : Int) (h0 : 0 ≤ a) (h1 : a ≤ 4611686018427387904) :
    ∃ r s', spec_l1Cur_next.f l a s = some (r, a + 1, s') ∧ 0 ≤ r ∧ r ≤ 255 := by
  unfold spec_l1Cur_next.f
  have e1 : wrap64 (a + 1) = a + 1 := w64 (by omega) (by omega)
  by_cases c : a < (l.length : Int)
  · have hb := byt_rd hl a.toNat (by omega)
    rw [show ((a.toNat : Nat) : Int) = a from by omega] at hb
    rw [if_pos c, if_pos h0, e1, if_pos (by omega), w64 (x := rd l a) (by omega) (by omega)]
    exact ⟨_, _, rfl, hb.1, hb.2⟩
  · rw [if_neg c, e1, if_neg (by omega)]
    refine ⟨_, _, rfl, ?_⟩
    have hb := and255 (IntKind.u64.wrap (IntKind.u64.wrap (IntKind.u64.wrap (s * 6364136223846793005)) + 1442695040888963407) / 1099511627776)
    rw [w64 (by omega) (by omega)]
    exact hb
theorem pick_ok {l : List Int} (hl : Byt l) (a s n : Int) (h0 : 0 ≤ a) (h1 : a ≤ 4611686018427387900) :
    ∃ r a' s', spec_l1Cur_pick.f l a s n = some (r, a', s') ∧ 0 ≤ r ∧ (r < n ∨ n ≤ 1 ∧ r = 0) ∧ a ≤ a' ∧ a' ≤ a + 2 := by
  unfold spec_l1Cur_pick.f
  by_cases c : n ≤ 1
  · rw [if_pos c]; exact ⟨_, _, _, rfl, by omega, .inr ⟨c, rfl⟩, by omega, by omega⟩
  · obtain ⟨r, s1, e1, g0, g1⟩ := next_ok hl a s h0 (by omega)
    rw [if_neg c, e1]
    simp only [Option.bind_some]
    by_cases c2 : n > 200
    · obtain ⟨r2, s2, e2, k0, k1⟩ := next_ok hl (a + 1) s1 (by omega) (by omega)
      rw [if_pos c2, e2]
      simp only [Option.bind_some]
      rw [if_neg (by omega), w64 (x := r * 256) (by omega) (by omega), w64 (by omega) (by omega)]
      exact ⟨_, _, _, rfl, Int.tmod_nonneg _ (by omega), .inl (Int.tmod_lt_of_pos _ (by omega)), by omega, by omega⟩
    · rw [if_neg c2, if_neg (by omega)]
      exact ⟨_, _, _, rfl, Int.tmod_nonneg _ (by omega), .inl (Int.tmod_lt_of_pos _ (by omega)), by omega, by omega⟩
theorem one_ok {l : List Int} (hl : Byt l) (a s n : Int) (h0 : 0 ≤ a) (h1 : a ≤ 4611686018427387900) :
    ∃ b a' s', spec_l1Cur_one.f l a s n = some (b, a', s') ∧ a ≤ a' ∧ a' ≤ a + 2 := by
  unfold spec_l1Cur_one.f
  obtain ⟨r, a', s', e, _, _, g⟩ := pick_ok hl a s n h0 h1
  rw [e]; exact ⟨_, _, _, rfl, g⟩
theorem among_ok {l : List Int} (hl : Byt l) (a s : Int) (x : List Int) (hx : 1 < x.length) (h0 : 0 ≤ a) (h1 : a ≤ 4611686018427387900) :
    ∃ r a' s', spec_l1Cur_among.f l a s x = some (r, a', s') ∧ r ∈ x ∧ a ≤ a' ∧ a' ≤ a + 2 := by
  unfold spec_l1Cur_among.f
  obtain ⟨r, a', s', e, g0, g1, g⟩ := pick_ok hl a s (x.length : Int) h0 h1
  have hr : r.toNat < x.length := by omega
  rw [e]
  simp only [Option.bind_some]
  rw [if_pos g0, if_pos (by omega)]
  refine ⟨_, _, _, rfl, ?_, g⟩
  rw [show r = ((r.toNat : Nat) : Int) from by omega, rdj, getD_at hr]
  exact List.getElem_mem hr

theorem digits_size (n : Nat) : (numT n).size ≤ 2 := by
  unfold numT; split
  · show 1 ≤ 2; omega
  · show 2 ≤ 2; omega
theorem implHash_ev (s : ByteArray) (hs : s.size ≤ 4611686018427387904) : Ev (fun k => impl_HashOf.f k s) (hashT s) :=
  ⟨s.size + 1, fun k hk => at_rounds (fun k => impl_HashOf.mono s k) hk (hashT_is s hs)⟩

def srvP (l : List Int) : Prop := (∀ x ∈ l, 0 ≤ x ∧ x ≤ 99) ∧ (∀ j, j + 1 < l.length → l.getD j 0 < l.getD (j + 1) 0) ∧ l.length ≤ 12
theorem specSrv_l (l : List Int) (hn : l.length ≤ 1048576) (d : Nat) : ∀ (j : Nat), j + d = l.length → (∀ i, i < j → 0 ≤ l.getD i 0 ∧ l.getD i 0 ≤ 99) → (∀ i, i + 1 < j → l.getD i 0 < l.getD (i + 1) 0) →
    ∃ b, Ev (fun k => spec_l14Servers.l0 k l l (l.length : Int) (j : Int)) b ∧ (b = true ↔ srvP l) := by
  induction d with
  | zero =>
    intro j hj h1 h2
    refine ⟨decide ((l.length : Int) ≤ 12), Ev.step (f := fun _ => some (decide ((l.length : Int) ≤ 12))) (fun k => ?_) (Ev.now _), ?_⟩
    · simp only [spec_l14Servers.l0]; rw [if_neg (by omega)]
    · rw [decide_eq_true_eq]
      refine ⟨fun h => ⟨fun x hx => ?_, fun i hi => h2 i (by omega), by omega⟩, fun h => by have := h.2.2; omega⟩
      obtain ⟨i, hi, rfl⟩ := List.getElem_of_mem hx
      have := h1 i (by omega)
      rw [getD_at hi] at this; exact this
  | succ d ih =>
    intro j hj h1 h2
    have hlt : j < l.length := by omega
    have hstep : ∀ k, spec_l14Servers.l0 (k + 1) l l (l.length : Int) (j : Int) = if 0 ≤ l.getD j 0 ∧ l.getD j 0 ≤ 99 then (if (j : Int) > 0 then (if l.getD (j - 1) 0 ≥ l.getD j 0 then some false else spec_l14Servers.l0 k l l (l.length : Int) ((j + 1 : Nat) : Int)) else spec_l14Servers.l0 k l l (l.length : Int) ((j + 1 : Nat) : Int)) else some false := fun k => by
      simp only [spec_l14Servers.l0]
      rw [if_pos (by omega), if_pos (by omega), if_pos (by omega), l1In_eq, wj (n := l.length) hlt (by omega), rdj]
      simp only [Option.bind_some, decide_eq_true_eq]
      by_cases cB : 0 ≤ l.getD j 0 ∧ l.getD j 0 ≤ 99
      rotate_left
      · rw [if_neg cB, if_neg cB]
      rw [if_pos cB, if_pos cB]
      by_cases c0 : (j : Int) > 0
      · rw [if_pos c0, if_pos c0, w64 (x := (j : Int) - 1) (by omega) (by omega), if_pos (by omega), if_pos (by omega), show (j : Int) - 1 = ((j - 1 : Nat) : Int) by omega, rdj]
      · rw [if_neg c0, if_neg c0]
    have bad : ¬ srvP l → ∀ (h : ∀ k, spec_l14Servers.l0 (k + 1) l l (l.length : Int) (j : Int) = some false), ∃ b, Ev (fun k => spec_l14Servers.l0 k l l (l.length : Int) (j : Int)) b ∧ (b = true ↔ srvP l) := fun hb h => ⟨false, Ev.step (f := fun _ => some false) h (Ev.now _), ⟨fun e => (by cases e), fun e => absurd e hb⟩⟩
    by_cases c1 : 0 ≤ l.getD j 0 ∧ l.getD j 0 ≤ 99
    · by_cases c2 : (j : Int) > 0
      · by_cases c3 : l.getD (j - 1) 0 ≥ l.getD j 0
        · refine bad (fun h => ?_) (fun k => by rw [hstep, if_pos c1, if_pos c2, if_pos c3])
          have := h.2.1 (j - 1) (by omega)
          rw [show j - 1 + 1 = j by omega] at this
          omega
        · obtain ⟨b, e1, e2⟩ := ih (j + 1) (by omega) (fun i hi => by
            by_cases e : i = j
            · rw [e]; exact c1
            · exact h1 i (by omega)) (fun i hi => by
            by_cases e : i + 1 = j
            · obtain rfl : i = j - 1 := by omega
              rw [show j - 1 + 1 = j by omega]; omega
            · exact h2 i (by omega))
          exact ⟨b, Ev.step (fun k => by rw [hstep, if_pos c1, if_pos c2, if_neg c3]) e1, e2⟩
      · obtain ⟨b, e1, e2⟩ := ih (j + 1) (by omega) (fun i hi => by
          by_cases e : i = j
          · rw [e]; exact c1
          · exact h1 i (by omega)) (fun i hi => by omega)
        exact ⟨b, Ev.step (fun k => by rw [hstep, if_pos c1, if_neg c2]) e1, e2⟩
    · refine bad (fun h => ?_) (fun k => by rw [hstep, if_neg c1])
      exact c1 (by rw [getD_at hlt]; exact h.1 _ (List.getElem_mem hlt))
theorem allSrv_iff : ∀ l : List Int, ∃ b, impl_areAll_int__29.f l = some b ∧ (b = true ↔ ∀ x ∈ l, 0 ≤ x ∧ x ≤ 99)
  | [] => ⟨true, rfl, by simp⟩
  | x :: xs => by
    obtain ⟨b, h1, h2⟩ := allSrv_iff xs
    have e : impl_areAll_int__29.f (x :: xs) = if 0 ≤ x ∧ x ≤ 99 then impl_areAll_int__29.f xs else some false := by
      show (impl_isServer.f x).bind _ = _
      unfold impl_isServer.f
      rw [within_eq]
      by_cases c : 0 ≤ x ∧ x ≤ 99
      · rw [decide_eq_true c, if_pos c]; rfl
      · rw [decide_eq_false c, if_neg c]; rfl
    by_cases c : 0 ≤ x ∧ x ≤ 99
    · exact ⟨b, by rw [e, if_pos c, h1], by rw [h2]; simp [c]⟩
    · exact ⟨false, by rw [e, if_neg c], ⟨fun h => (by cases h), fun h => absurd (h x List.mem_cons_self) c⟩⟩
theorem implSrv_l (l : List Int) (hn : l.length ≤ 1048576) (d : Nat) : ∀ (j : Nat), 1 ≤ j → j + d = l.length ∨ (j = 1 ∧ l.length = 0 ∧ d = 0) → (∀ i, i + 1 < j → l.getD i 0 < l.getD (i + 1) 0) →
    ∃ b, Ev (fun k => impl_areServers.l0 k l (j : Int)) b ∧ (b = true ↔ srvP l) := by
  induction d with
  | zero =>
    intro j hj1 hj h2
    have hstep : ∀ k, impl_areServers.l0 (k + 1) l (j : Int) = if (l.length : Int) ≤ 12 then ((impl_areAll_int__29.f l).bind fun t167 => (some t167)) else (some false) := fun k => by
      simp only [impl_areServers.l0]; rw [if_neg (by omega)]
    obtain ⟨b, e1, e2⟩ := allSrv_iff l
    by_cases c : (l.length : Int) ≤ 12
    · refine ⟨b, Ev.step (f := fun _ => some b) (fun k => by rw [hstep, if_pos c, e1]; rfl) (Ev.now _), ?_⟩
      rw [e2]
      exact ⟨fun h => ⟨h, fun i hi => h2 i (by omega), by omega⟩, fun h => h.1⟩
    · exact ⟨false, Ev.step (f := fun _ => some false) (fun k => by rw [hstep, if_neg c]) (Ev.now _), ⟨fun h => (by cases h), fun h => absurd h.2.2 (by omega)⟩⟩
  | succ d ih =>
    intro j hj1 hj h2
    have hlt : j < l.length := by omega
    have hstep : ∀ k, impl_areServers.l0 (k + 1) l (j : Int) = if l.getD j 0 ≤ l.getD (j - 1) 0 then some false else impl_areServers.l0 k l ((j + 1 : Nat) : Int) := fun k => by
      simp only [impl_areServers.l0]
      rw [if_pos (by omega), if_pos (by omega), w64 (x := (j : Int) - 1) (by omega) (by omega), if_pos (by omega), if_pos (by omega), wj (n := l.length) hlt (by omega), show (j : Int) - 1 = ((j - 1 : Nat) : Int) by omega, rdj, rdj]
    by_cases c : l.getD j 0 ≤ l.getD (j - 1) 0
    · refine ⟨false, Ev.step (f := fun _ => some false) (fun k => by rw [hstep, if_pos c]) (Ev.now _), ⟨fun h => (by cases h), fun h => ?_⟩⟩
      have := h.2.1 (j - 1) (by omega)
      rw [show j - 1 + 1 = j by omega] at this
      omega
    · obtain ⟨b, e1, e2⟩ := ih (j + 1) (by omega) (.inl (by omega)) (fun i hi => by
        by_cases e : i + 1 = j
        · obtain rfl : i = j - 1 := by omega
          rw [show j - 1 + 1 = j by omega]; omega
        · exact h2 i (by omega))
      exact ⟨b, Ev.step (fun k => by rw [hstep, if_neg c]) e1, e2⟩
theorem srv_both (l : List Int) (hn : l.length ≤ 1048576) : ∃ b, Ev (fun k => spec_l14Servers.f k l) b ∧ Ev (fun k => impl_areServers.f k l) b ∧ (b = true → srvP l) ∧ (srvP l → b = true) := by
  obtain ⟨b, h1, h2⟩ := specSrv_l l hn l.length 0 (by omega) (fun i hi => by omega) (fun i hi => by omega)
  obtain ⟨b', h3, h4⟩ := implSrv_l l hn (l.length - 1) 1 (Nat.le_refl _) (by omega) (fun i hi => by omega)
  have e : b = b' := Bool.eq_iff_iff.2 (h2.trans h4.symm)
  subst e
  exact ⟨b, h1, h3, h2.1, h2.2⟩
theorem num_all : ∀ n : Nat, n < 100 → spec_l1Num.f 2 (n : Int) = some (numT n) := by decide +kernel
theorem num_ev (x : Int) (h : 0 ≤ x ∧ x < 100) : Ev (fun k => spec_l1Num.f k x) (numT x.toNat) := by
  refine ⟨2, fun k hk => at_rounds (fun k => (spec_l1Num.mono_l k) x) hk ?_⟩
  have := num_all x.toNat (by omega)
  rw [show ((x.toNat : Nat) : Int) = x by omega] at this
  exact this
theorem specHash_l (s : ByteArray) (hs : s.size ≤ 4611686018427387904) (d : Nat) : ∀ (j : Nat) (h : Int), j + d = s.size →
    Ev (fun k => spec_HashOf.l0 k s h (j : Int)) (Go.bits .xor .u32 (((Go.bits .xor .u32 (hashN s d j h) ((hashN s d j h) / 32768)) * 2246822507) % 4294967296) ((((Go.bits .xor .u32 (hashN s d j h) ((hashN s d j h) / 32768)) * 2246822507) % 4294967296) / 8192)) := by
  induction d with
  | zero =>
    intro j h hj
    refine Ev.step (f := fun _ => some _) (fun k => ?_) (Ev.now _)
    simp only [spec_HashOf.l0]; rw [if_neg (by omega)]; rfl
  | succ d ih =>
    intro j h hj
    refine Ev.step (fun k => ?_) (ih (j + 1) _ (by omega))
    simp only [spec_HashOf.l0]
    rw [if_pos (by omega), if_pos (by omega), wj (n := s.size) (by omega) (by omega)]
theorem specHash_ev (s : ByteArray) (hs : s.size ≤ 4611686018427387904) : Ev (fun k => spec_HashOf.f k s) (hashT s) := specHash_l s hs s.size 0 _ (by omega)
def ltP (x y : S31) : Bool := decide (x.f0 < y.f0 ∨ x.f0 = y.f0 ∧ x.f1 < y.f1)
def leP (x y : S31) : Bool := !ltP y x
theorem leP_iff (x y : S31) : leP x y = true ↔ ¬ (y.f0 < x.f0 ∨ y.f0 = x.f0 ∧ y.f1 < x.f1) := by
  unfold leP ltP; rw [Bool.not_eq_true', decide_eq_false_iff_not]
theorem sortPt_eq (l : List S31) : sortPt l = l.mergeSort leP := by
  unfold sortPt leP ltP
  congr 1
  funext x y
  rw [ltOf_pt]
theorem leP_anti (x y : S31) (h1 : leP x y = true) (h2 : leP y x = true) : x = y := by
  rw [leP_iff] at h1 h2
  obtain ⟨a, b⟩ := x
  obtain ⟨c, d⟩ := y
  simp only at h1 h2
  obtain rfl : a = c := by omega
  obtain rfl : b = d := by omega
  rfl
theorem leP_trans (x y z : S31) (h1 : leP x y = true) (h2 : leP y z = true) : leP x z = true := by
  rw [leP_iff] at *; omega
theorem leP_total (x y : S31) : (leP x y || leP y x) = true := by
  rw [Bool.or_eq_true, leP_iff, leP_iff]; omega
def insPt (p : S31) : List S31 → List S31
  | [] => [p]
  | y :: ys => if ltP y p = true then y :: insPt p ys else p :: y :: ys
theorem insPt_perm (p : S31) : ∀ l, (insPt p l).Perm (p :: l)
  | [] => List.Perm.refl _
  | y :: ys => by
    unfold insPt
    split
    · exact ((insPt_perm p ys).cons y).trans (List.Perm.swap p y ys)
    · exact List.Perm.refl _
theorem insPt_length (p : S31) (l : List S31) : (insPt p l).length = l.length + 1 := by
  rw [(insPt_perm p l).length_eq]; rfl
theorem insPt_sorted (p : S31) : ∀ l, l.Pairwise (fun x y => leP x y = true) → (insPt p l).Pairwise (fun x y => leP x y = true)
  | [], _ => List.pairwise_singleton _ _
  | y :: ys, h => by
    obtain ⟨h1, h2⟩ := List.pairwise_cons.1 h
    unfold insPt
    split
    · rename_i c
      refine List.pairwise_cons.2 ⟨fun z hz => ?_, insPt_sorted p ys h2⟩
      rcases List.mem_cons.1 ((insPt_perm p ys).mem_iff.1 hz) with e | e
      · rw [e, leP_iff]
        unfold ltP at c
        have := of_decide_eq_true c
        omega
      · exact h1 z e
    · rename_i c
      have c1 : leP p y = true := by unfold leP; simp [c]
      exact List.pairwise_cons.2 ⟨fun z hz => by
        rcases List.mem_cons.1 hz with e | e
        · rw [e]; exact c1
        · exact leP_trans _ _ _ c1 (h1 z e), h⟩
theorem foldl_ins : ∀ (l o : List S31), o.Pairwise (fun x y => leP x y = true) → (l.foldl (fun o p => insPt p o) o).Pairwise (fun x y => leP x y = true) ∧ (l.foldl (fun o p => insPt p o) o).Perm (o ++ l)
  | [], o, h => ⟨h, by simp⟩
  | p :: l, o, h => by
    obtain ⟨h1, h2⟩ := foldl_ins l (insPt p o) (insPt_sorted p o h)
    refine ⟨h1, h2.trans ?_⟩
    exact ((insPt_perm p o).append_right l).trans (by rw [List.cons_append]; exact (List.perm_middle).symm)
theorem foldl_sort (l : List S31) : l.foldl (fun o p => insPt p o) [] = sortPt l := by
  obtain ⟨h1, h2⟩ := foldl_ins l [] List.Pairwise.nil
  rw [List.nil_append] at h2
  rw [sortPt_eq]
  exact List.Perm.eq_of_pairwise (fun a b _ _ => leP_anti a b) h1 (List.pairwise_mergeSort leP_trans leP_total l) (h2.trans (List.mergeSort_perm l leP).symm)
def textP (s i : Int) : ByteArray := (numT s.toNat ++ (⟨#[45]⟩ : ByteArray)) ++ numT i.toNat
def ptP (s i : Int) : S31 := ⟨hashT (textP s i), s⟩
def rowP (s : Int) : Nat → Nat → List S31
  | _, 0 => []
  | i, d + 1 => ptP s (i : Int) :: rowP s (i + 1) d
theorem rowP_length (s : Int) : ∀ (d i : Nat), (rowP s i d).length = d
  | 0, _ => rfl
  | d + 1, i => by unfold rowP; rw [List.length_cons, rowP_length s d]
def genP (m : Nat) : List Int → List S31
  | [] => []
  | s :: t => rowP s 0 m ++ genP m t
theorem genP_length (m : Nat) : ∀ l, (genP m l).length = l.length * m
  | [] => by simp [genP]
  | s :: t => by unfold genP; rw [List.length_append, rowP_length, genP_length m t, List.length_cons, Nat.add_mul]; omega
theorem foldl_len : ∀ (l o : List S31), (l.foldl (fun o p => insPt p o) o).length = o.length + l.length
  | [], o => by simp
  | p :: l, o => by rw [List.foldl_cons, foldl_len l, insPt_length, List.length_cons]; omega
theorem textP_size (s i : Int) : (textP s i).size ≤ 5 := by
  unfold textP
  rw [ByteArray.size_append, ByteArray.size_append]
  have h1 := digits_size s.toNat
  have h2 := digits_size i.toNat
  have h3 : (⟨#[45]⟩ : ByteArray).size = 1 := rfl
  omega
theorem dash_size (s : Int) (t : ByteArray) : (numT s.toNat ++ (⟨#[45]⟩ : ByteArray)).size + t.size ≤ 3 + t.size := by
  rw [ByteArray.size_append]
  have h1 := digits_size s.toNat
  have h3 : (⟨#[45]⟩ : ByteArray).size = 1 := rfl
  omega
theorem ringI_l1 {l : List Int} {a1 : Int} {s : Int} (hs : 0 ≤ s ∧ s < 100) (jx : Int) (m : Nat) (hm : m ≤ 8) (hma : a1 = (m : Int)) (r : List S31 × Bool) (d : Nat) : ∀ (i : Nat) (out : List S31), i + d = m → out.length + d ≤ 1000 →
    Ev (fun k => impl_RingOf.l0 k a1 (out ++ rowP s i d) l (l.length : Int) (wrap64 (jx + 1))) r → Ev (fun k => impl_RingOf.l1 k a1 out s l (l.length : Int) jx a1 (i : Int)) r := by
  induction d with
  | zero =>
    intro i out hi ho h
    refine Ev.step (fun k => ?_) h
    simp only [impl_RingOf.l1]
    rw [if_neg (by omega)]
    unfold rowP
    rw [List.append_nil]
  | succ d ih =>
    intro i out hi ho h
    have h' := ih (i + 1) (out ++ [ptP s (i : Int)]) (by omega) (by simp; omega) (by
      rw [List.append_assoc, List.singleton_append]; exact h)
    refine Ev.step (f := fun k => (impl_HashOf.f k (textP s (i : Int))).bind fun q => impl_RingOf.l1 k a1 (out ++ [(⟨q, s⟩ : S31)]) s l (l.length : Int) jx a1 ((i + 1 : Nat) : Int)) (fun k => ?_) (Ev.bind (implHash_ev _ (by have := textP_size s i; omega)) h')
    simp only [impl_RingOf.l1]
    have hd1 := digits_size s.toNat
    have hd2 := digits_size (i : Int).toNat
    have hd3 := dash_size s (numT (i : Int).toNat)
    rw [if_pos (by omega), show strconv_Itoa.f s = some (numT s.toNat) from if_pos hs, Option.bind_some, if_pos (show (numT s.toNat).size + 1 ≤ 9223372036854775807 by omega), show strconv_Itoa.f (i : Int) = some (numT (i : Int).toNat) from if_pos (show 0 ≤ (i : Int) ∧ (i : Int) < 100 by omega), Option.bind_some, if_pos (show (numT s.toNat ++ (⟨#[45]⟩ : ByteArray)).size + (numT (i : Int).toNat).size ≤ 9223372036854775807 by omega), wj (j := i) (n := m) (by omega) (by omega)]
    refine congrArg _ (funext fun q => ?_)
    rw [if_pos (by omega)]
theorem ringI_l0 {l : List Int} (hx : ∀ x ∈ l, 0 ≤ x ∧ x < 100) (hl : l.length ≤ 12) {a1 : Int} (m : Nat) (hm : m ≤ 8) (hma : a1 = (m : Int)) (d : Nat) : ∀ (j : Nat) (out : List S31), j + d = l.length → out.length = j * m →
    Ev (fun k => impl_RingOf.l0 k a1 out l (l.length : Int) (j : Int)) (sortPt (out ++ genP m (l.drop j)), true) := by
  induction d with
  | zero =>
    intro j out hj ho
    rw [List.drop_of_length_le (by omega)]
    have hb : j * m ≤ 12 * 8 := Nat.mul_le_mul (by omega) hm
    refine Ev.step (f := fun _ => some (sortPt (out ++ genP m []), true)) (fun k => ?_) (Ev.now _)
    simp only [impl_RingOf.l0]
    rw [if_neg (by omega), if_pos (by omega), genP, List.append_nil]
  | succ d ih =>
    intro j out hj ho
    have hlt : j < l.length := by omega
    have er : rd l (j : Int) = l[j] := by rw [rdj, getD_at hlt]
    have hb : j * m ≤ 12 * 8 := Nat.mul_le_mul (by omega) hm
    rw [List.drop_eq_getElem_cons hlt, genP, ← List.append_assoc]
    have h := ih (j + 1) (out ++ rowP l[j] 0 m) (by omega) (by rw [List.length_append, rowP_length, ho, Nat.add_mul, Nat.one_mul])
    rw [← wj (j := j) (n := l.length) hlt (by omega)] at h
    refine Ev.step (fun k => ?_) (ringI_l1 (hx _ (List.getElem_mem hlt)) (j : Int) m hm hma _ m 0 out (by omega) (by omega) h)
    simp only [impl_RingOf.l0]
    rw [if_pos (by omega), if_pos (by omega), if_pos (by omega), er]
    rfl
theorem less_is (x y : S31) : spec_l14Less.f x.f0 x.f1 y.f0 y.f1 = some (ltP x y) := by
  unfold spec_l14Less.f ltP
  by_cases c : x.f0 < y.f0
  · rw [if_pos c, decide_eq_true (.inl c)]
  · rw [if_neg c]
    by_cases c2 : x.f0 = y.f0
    · rw [if_pos c2]
      congr 1
      exact decide_eq_decide.2 ⟨fun h => .inr ⟨c2, h⟩, fun h => by rcases h with h | h <;> omega⟩
    · rw [if_neg c2, decide_eq_false (by omega)]
theorem rdT_at (A : List S31) (y : S31) (B : List S31) : rd_T31 (A ++ y :: B) ((A.length : Nat) : Int) = y := by
  unfold rd_T31
  rw [Int.toNat_natCast, List.getD_eq_getElem?_getD, List.getElem?_append_right (Nat.le_refl _), Nat.sub_self]
  rfl
theorem ringS_l2 {l : List Int} {a1 s : Int} (i jx : Int) (p : S31) (r : List S31 × Bool) : ∀ (B A : List S31), A.length + B.length ≤ 1000 →
    Ev (fun k => spec_RingOf.l1 k a1 (A ++ insPt p B) s (wrap64 (i + 1)) l (l.length : Int) jx) r → Ev (fun k => spec_RingOf.l2 k a1 (A ++ B) s i ((A.length : Nat) : Int) l (l.length : Int) jx p.f0 p.f1) r := by
  intro B
  induction B with
  | nil =>
    intro A hl h
    rw [List.append_nil]
    refine Ev.step (fun k => ?_) h
    simp only [spec_RingOf.l2]
    rw [if_neg (by omega), if_pos (by omega), if_pos (by omega)]
    simp only [Option.bind_some, Int.toNat_natCast, List.take_length, List.drop_length, List.nil_append, List.length_nil, Nat.zero_add, Nat.add_zero, List.append_nil]
    simp only [List.length_nil] at hl
    rw [if_pos (by omega), if_pos (by omega), if_pos (by simp; omega)]
    rfl
  | cons y B ih =>
    intro A hl h
    rw [List.length_cons] at hl
    have hlen : ((A ++ y :: B).length : Int) = (A.length : Int) + B.length + 1 := by simp; omega
    by_cases c : ltP y p = true
    · have h' := ih (A ++ [y]) (by simp; omega) (by
        rw [List.append_assoc, List.singleton_append]
        rw [insPt, if_pos c] at h
        exact h)
      rw [List.append_assoc, List.singleton_append, List.length_append, List.length_singleton] at h'
      refine Ev.step (fun k => ?_) h'
      simp only [spec_RingOf.l2]
      rw [if_pos (by omega), if_pos (by omega), rdT_at, less_is, Option.bind_some, if_pos c, wj (j := A.length) (n := A.length + 1) (by omega) (by omega)]
    · rw [insPt, if_neg c] at h
      refine Ev.step (fun k => ?_) h
      simp only [spec_RingOf.l2]
      rw [if_pos (by omega), if_pos (by omega), rdT_at, less_is, Option.bind_some, if_neg c, if_pos (by omega)]
      simp only [Option.bind_some, Int.toNat_natCast, List.take_left, List.drop_left, List.nil_append, List.length_nil, Nat.zero_add]
      rw [if_pos (by omega), if_pos (by omega), if_pos (by simp; omega), List.append_assoc, List.singleton_append]
theorem ringS_l1 {l : List Int} {a1 : Int} {s : Int} (hs : 0 ≤ s ∧ s < 100) (jx : Int) (m : Nat) (hm : m ≤ 8) (hma : a1 = (m : Int)) (r : List S31 × Bool) (d : Nat) : ∀ (i : Nat) (out : List S31), i + d = m → out.length + d ≤ 500 →
    Ev (fun k => spec_RingOf.l0 k a1 ((rowP s i d).foldl (fun o p => insPt p o) out) l (l.length : Int) (wrap64 (jx + 1))) r → Ev (fun k => spec_RingOf.l1 k a1 out s (i : Int) l (l.length : Int) jx) r := by
  induction d with
  | zero =>
    intro i out hi ho h
    refine Ev.step (fun k => ?_) h
    simp only [spec_RingOf.l1]
    rw [if_neg (by omega)]
    rfl
  | succ d ih =>
    intro i out hi ho h
    rw [rowP, List.foldl_cons] at h
    have h' := ih (i + 1) (insPt (ptP s (i : Int)) out) (by omega) (by rw [insPt_length]; omega) h
    rw [← wj (j := i) (n := m) (by omega) (by omega)] at h'
    have h2 := ringS_l2 (i : Int) jx (ptP s (i : Int)) r out [] (by simp; omega) h'
    have hd1 := digits_size s.toNat
    have hd2 := digits_size (i : Int).toNat
    have hd3 := dash_size s (numT (i : Int).toNat)
    refine Ev.step (f := fun k => (spec_l1Num.f k s).bind fun t => if t.size + 1 ≤ 9223372036854775807 then ((spec_l1Num.f k (i : Int)).bind fun t2 => if (t ++ (⟨#[45]⟩ : ByteArray)).size + t2.size ≤ 9223372036854775807 then ((spec_HashOf.f k ((t ++ (⟨#[45]⟩ : ByteArray)) ++ t2)).bind fun q => spec_RingOf.l2 k a1 out s (i : Int) 0 l (l.length : Int) jx q s) else none) else none) (fun k => ?_) (Ev.bind (num_ev s hs) ?_)
    · simp only [spec_RingOf.l1]
      rw [if_pos (by omega)]
    · simp only [if_pos (show (numT s.toNat).size + 1 ≤ 9223372036854775807 by omega)]
      refine Ev.bind (num_ev (i : Int) (by omega)) ?_
      simp only [if_pos (show (numT s.toNat ++ (⟨#[45]⟩ : ByteArray)).size + (numT (i : Int).toNat).size ≤ 9223372036854775807 by omega)]
      exact Ev.bind (specHash_ev _ (by have := textP_size s i; unfold textP at this; omega)) h2
theorem ringS_l0 {l : List Int} (hx : ∀ x ∈ l, 0 ≤ x ∧ x < 100) (hl : l.length ≤ 12) {a1 : Int} (m : Nat) (hm : m ≤ 8) (hma : a1 = (m : Int)) (d : Nat) : ∀ (j : Nat) (out : List S31), j + d = l.length → out.length = j * m →
    Ev (fun k => spec_RingOf.l0 k a1 out l (l.length : Int) (j : Int)) ((genP m (l.drop j)).foldl (fun o p => insPt p o) out, true) := by
  induction d with
  | zero =>
    intro j out hj ho
    rw [List.drop_of_length_le (by omega)]
    refine Ev.step (f := fun _ => some (out, true)) (fun k => ?_) (Ev.now _)
    simp only [spec_RingOf.l0]
    rw [if_neg (by omega)]
  | succ d ih =>
    intro j out hj ho
    have hlt : j < l.length := by omega
    have er : rd l (j : Int) = l[j] := by rw [rdj, getD_at hlt]
    have hb : j * m ≤ 12 * 8 := Nat.mul_le_mul (by omega) hm
    rw [List.drop_eq_getElem_cons hlt, genP, List.foldl_append]
    have h := ih (j + 1) ((rowP l[j] 0 m).foldl (fun o p => insPt p o) out) (by omega) (by rw [foldl_len, rowP_length, ho, Nat.add_mul, Nat.one_mul])
    rw [← wj (j := j) (n := l.length) hlt (by omega)] at h
    refine Ev.step (fun k => ?_) (ringS_l1 (hx _ (List.getElem_mem hlt)) (j : Int) m hm hma _ m 0 out (by omega) (by omega) h)
    simp only [spec_RingOf.l0]
    rw [if_pos (by omega), if_pos (by omega), if_pos (by omega), er]
    rfl
theorem inR_is (a : Int) : spec_l1In.f a 1 8 = some (decide (1 ≤ a ∧ a ≤ 8)) ∧ impl_within.f a 1 8 = some (decide (1 ≤ a ∧ a ≤ 8)) := by
  unfold spec_l1In.f impl_within.f
  constructor
  · by_cases c1 : a ≥ 1
    · rw [if_pos c1]
      congr 1
      exact decide_eq_decide.2 ⟨fun h => ⟨c1, h⟩, fun h => h.2⟩
    · rw [if_neg c1, decide_eq_false (fun h => c1 h.1)]
  · by_cases c1 : 1 ≤ a
    · rw [if_pos c1]
      congr 1
      exact decide_eq_decide.2 ⟨fun h => ⟨c1, h⟩, fun h => h.2⟩
    · rw [if_neg c1, decide_eq_false (fun h => c1 h.1)]
theorem RingOf_both (l : List Int) (hl : l.length ≤ 1048576) (a : Int) : ∃ c b, Ev (fun k => spec_RingOf.f k l a) (c, b) ∧ Ev (fun k => impl_RingOf.f k l a) (c, b) ∧ ((b = true ∧ srvP l ∧ 1 ≤ a ∧ a ≤ 8 ∧ c = sortPt (genP a.toNat l)) ∨ (b = false ∧ c = [] ∧ ¬ (srvP l ∧ 1 ≤ a ∧ a ≤ 8))) := by
  obtain ⟨b, h1, h2, h3, h4⟩ := srv_both l hl
  obtain ⟨i1, i2⟩ := inR_is a
  unfold spec_RingOf.f impl_RingOf.f
  by_cases c : b = true
  · by_cases ca : 1 ≤ a ∧ a ≤ 8
    · obtain ⟨hx, _, h12⟩ := h3 c
      have hx' : ∀ x ∈ l, 0 ≤ x ∧ x < 100 := fun x h => by have := hx x h; omega
      obtain ⟨m, hm⟩ : ∃ m : Nat, a = (m : Int) := ⟨a.toNat, by omega⟩
      have r1 := ringS_l0 hx' h12 m (by omega) hm l.length 0 [] (by omega) (by simp)
      have r2 := ringI_l0 hx' h12 m (by omega) hm l.length 0 [] (by omega) (by simp)
      rw [List.drop_zero, foldl_sort] at r1
      rw [List.drop_zero, List.nil_append] at r2
      refine ⟨sortPt (genP m l), true, Ev.bind h1 ?_, Ev.bind h2 ?_, ?_⟩
      · simp only [if_pos c, i1, decide_eq_true ca, Option.bind_some, if_true]; exact r1
      · simp only [if_pos c, i2, decide_eq_true ca, Option.bind_some, if_true]; exact r2
      · exact .inl ⟨rfl, h3 c, ca.1, ca.2, by rw [hm, Int.toNat_natCast]⟩
    · refine ⟨[], false, Ev.bind h1 ?_, Ev.bind h2 ?_, .inr ⟨rfl, rfl, fun h => ca h.2⟩⟩
      · simp only [if_pos c, i1, decide_eq_false ca, Option.bind_some, Bool.false_eq_true, if_false]; exact Ev.now _
      · simp only [if_pos c, i2, decide_eq_false ca, Option.bind_some, Bool.false_eq_true, if_false]; exact Ev.now _
  · refine ⟨[], false, Ev.bind h1 ?_, Ev.bind h2 ?_, .inr ⟨rfl, rfl, fun h => c (h4 h.1)⟩⟩
    · simp only [if_neg c]; exact Ev.now _
    · simp only [if_neg c]; exact Ev.now _

theorem of_ok {l : List Int} (hl : Byt l) (a s : Int) (x : List ByteArray) (hx : 1 < x.length) (h0 : 0 ≤ a) (h1 : a ≤ 4611686018427387900) :
    ∃ r a' s', spec_l1Cur_of.f l a s x = some (r, a', s') ∧ r ∈ x ∧ a ≤ a' ∧ a' ≤ a + 2 := by
  unfold spec_l1Cur_of.f
  obtain ⟨r, a', s', e, g0, g1, g⟩ := pick_ok hl a s (x.length : Int) h0 h1
  have hr : r.toNat < x.length := by omega
  rw [e]
  simp only [Option.bind_some]
  rw [if_pos g0, if_pos (by omega)]
  refine ⟨_, _, _, rfl, ?_, g⟩
  have : rdOf ByteArray.empty x r = x[r.toNat] := getD_at hr _
  rw [this]
  exact List.getElem_mem hr
theorem ringKey_ok {l : List Int} (hl : Byt l) (a s : Int) (h0 : 0 ≤ a) (h1 : a ≤ 4611686018427387000) :
    ∃ key a' s', Ev (fun k => spec_l1Cur_ringKey.f k l a s) (key, a', s') ∧ key.size ≤ 100 ∧ a ≤ a' ∧ a' ≤ a + 4 := by
  unfold spec_l1Cur_ringKey.f
  obtain ⟨r, a1, s1, e1, p1, q1, u1, v1⟩ := pick_ok hl a s 99 h0 (by omega)
  have hd := digits_size r.toNat
  obtain ⟨t, a2, s2, e2, m2, u2, v2⟩ := of_ok hl a1 s1 (([(⟨#[]⟩ : ByteArray), (⟨#[97]⟩ : ByteArray), (⟨#[98]⟩ : ByteArray), (⟨#[104, 116, 116, 112, 58, 47, 47, 104, 47, 97]⟩ : ByteArray), (⟨#[107]⟩ : ByteArray) ++ numT r.toNat] : List ByteArray)) (by simp) (by omega) (by omega)
  refine ⟨t, a2, s2, ?_, ?_, by omega, by omega⟩
  · simp only [e1, Option.bind_some]
    refine Ev.bind (num_ev r (by omega)) ?_
    simp only [if_pos (show 1 + (numT r.toNat).size ≤ 9223372036854775807 by omega), e2, Option.bind_some]
    exact Ev.now _
  · simp only [List.mem_cons, List.not_mem_nil, or_false] at m2
    have h107 : (⟨#[107]⟩ : ByteArray).size = 1 := rfl
    rcases m2 with rfl | rfl | rfl | rfl | rfl
    · decide
    · decide
    · decide
    · decide
    · rw [ByteArray.size_append]; omega
theorem servers_l {l : List Int} (hl : Byt l) (d : Nat) : ∀ (x : List Int) (at_ : Int) (a s : Int), x.length + d ≤ 100 → 0 ≤ a → a ≤ 1000000 + 4 * x.length →
    ∃ r a' s', Ev (fun k => spec_l1Cur_servers.l0 k x at_ (d : Int) l a s) (r, a', s') ∧ r.length ≤ 100 ∧ a ≤ a' ∧ a' ≤ a + 4 * d + 8 := by
  induction d with
  | zero =>
    intro x at_ a s hx h0 h1
    by_cases c : (x.length : Int) > 0
    · obtain ⟨b, a1, s1, e, u1, v1⟩ := one_ok hl a s 30 h0 (by omega)
      by_cases cb : b = true
      · obtain ⟨r2, a2, s2, e2, _, u2, v2⟩ := among_ok hl a1 s1 [(-1), 99, 100] (by simp) (by omega) (by omega)
        refine ⟨x.set 0 r2, a2, s2, Ev.step (f := fun _ => some (x.set 0 r2, a2, s2)) (fun k => ?_) (Ev.now _), by simp; omega, by omega, by omega⟩
        simp only [spec_l1Cur_servers.l0]
        rw [if_neg (by omega), if_pos c, e]
        simp only [Option.bind_some]
        rw [if_pos cb, e2]
        simp only [Option.bind_some]
        rw [if_pos (by omega)]; rfl
      · refine ⟨x, a1, s1, Ev.step (f := fun _ => some (x, a1, s1)) (fun k => ?_) (Ev.now _), by omega, by omega, by omega⟩
        simp only [spec_l1Cur_servers.l0]
        rw [if_neg (by omega), if_pos c, e]
        simp only [Option.bind_some]
        rw [if_neg cb]
    · refine ⟨x, a, s, Ev.step (f := fun _ => some (x, a, s)) (fun k => ?_) (Ev.now _), by omega, by omega, by omega⟩
      simp only [spec_l1Cur_servers.l0]
      rw [if_neg (by omega), if_neg c]
  | succ d ih =>
    intro x at_ a s hx h0 h1
    have ew : wrap64 (((d + 1 : Nat) : Int) - 1) = (d : Int) := by rw [w64 (by omega) (by omega)]; omega
    have el : ∀ y : Int, ((x ++ [y]).length : Int) = x.length + 1 := fun y => by simp
    obtain ⟨r1, a1, s1, e1, _, _, u1, v1⟩ := pick_ok hl a s 3 h0 (by omega)
    obtain ⟨r, a', s', g, g2, g3, g4⟩ := ih (x ++ [wrap64 (at_ + r1)]) (wrap64 (wrap64 (at_ + r1) + 1)) a1 s1 (by simp; omega) (by omega) (by rw [el]; omega)
    refine ⟨r, a', s', Ev.step (fun k => ?_) g, g2, by omega, by omega⟩
    simp only [spec_l1Cur_servers.l0]
    rw [if_pos (by omega), e1]
    simp only [Option.bind_some]
    rw [if_pos (by omega), ew]
theorem servers_ok {l : List Int} (hl : Byt l) (a s : Int) (h0 : 0 ≤ a) (h1 : a ≤ 900000) :
    ∃ r a' s', Ev (fun k => spec_l1Cur_servers.f k l a s) (r, a', s') ∧ r.length ≤ 100 ∧ a ≤ a' ∧ a' ≤ a + 100 := by
  unfold spec_l1Cur_servers.f
  obtain ⟨r1, a1, s1, e1, p1, q1, u1, v1⟩ := pick_ok hl a s 6 h0 (by omega)
  obtain ⟨r, a', s', g, g2, g3, g4⟩ := servers_l hl r1.toNat [] 0 a1 s1 (by simp; omega) (by omega) (by simp; omega)
  rw [show ((r1.toNat : Nat) : Int) = r1 from by omega] at g
  refine ⟨r, a', s', ?_, g2, by omega, by omega⟩
  simp only [e1, Option.bind_some]
  exact g

theorem srv_lt {l : List Int} (h : srvP l) (d : Nat) : ∀ i, i + d + 1 < l.length → l.getD i 0 < l.getD (i + d + 1) 0 := by
  induction d with
  | zero => intro i hi; exact h.2.1 i hi
  | succ d ih => intro i hi; have h1 := ih i (by omega); have h2 := h.2.1 (i + d + 1) (by omega); rw [show i + (d + 1) + 1 = i + d + 1 + 1 by omega]; omega
theorem srv_pair {l : List Int} (h : srvP l) : l.Pairwise (· < ·) := by
  rw [List.pairwise_iff_getElem]
  intro i j hi hj hij
  have := srv_lt h (j - i - 1) i (by omega)
  rw [show i + (j - i - 1) + 1 = j by omega, getD_at hi, getD_at hj] at this
  exact this
theorem srv_of_pair {l : List Int} (h1 : ∀ x ∈ l, 0 ≤ x ∧ x ≤ 99) (h2 : l.Pairwise (· < ·)) (h3 : l.length ≤ 12) : srvP l := by
  refine ⟨h1, fun j hj => ?_, h3⟩
  rw [getD_at (show j < l.length by omega), getD_at hj]
  exact List.pairwise_iff_getElem.1 h2 j (j + 1) (by omega) hj (by omega)
theorem srv_erase {l : List Int} (h : srvP l) (g : Nat) (hg : g < l.length) : srvP (l.eraseIdx g) ∧ l.eraseIdx g = l.filter (fun x => !decide (x = l[g])) := by
  have hp := srv_pair h
  have hsub := List.eraseIdx_sublist l g
  refine ⟨srv_of_pair (fun x hx => h.1 x (hsub.subset hx)) (hp.sublist hsub) (Nat.le_trans hsub.length_le h.2.2), ?_⟩
  have go : ∀ v, v = l[g] → l.eraseIdx g = l.filter (fun x => !decide (x = v)) := by
    intro v hv
    have e : l = l.take g ++ v :: l.drop (g + 1) := by rw [hv, ← List.drop_eq_getElem_cons hg, List.take_append_drop]
    have hpe := List.pairwise_append.1 (e ▸ hp : (l.take g ++ v :: l.drop (g + 1)).Pairwise (· < ·))
    have hpc := List.pairwise_cons.1 hpe.2.1
    have f1 : (l.take g).filter (fun x => !decide (x = v)) = l.take g := List.filter_eq_self.2 fun x hx => by
      have := hpe.2.2 x hx v List.mem_cons_self
      simp; omega
    have f2 : (l.drop (g + 1)).filter (fun x => !decide (x = v)) = l.drop (g + 1) := List.filter_eq_self.2 fun x hx => by
      have := hpc.1 x hx
      simp; omega
    rw [List.eraseIdx_eq_take_drop_succ]
    conv => rhs; rw [e]
    rw [List.filter_append, f1, List.filter_cons, if_neg (by simp), f2]
  exact go _ rfl
theorem number_l {l : List Int} (hl : Byt l) (hn : l.length ≤ 1048576) (d : Nat) : ∀ (j : Nat) (n : Int), j + d = l.length → 0 ≤ n → n < 1000003 →
    ∃ r, Ev (fun k => laws_numberOf.l0 k n l (l.length : Int) (j : Int)) r ∧ 0 ≤ r ∧ r < 1000003 := by
  induction d with
  | zero =>
    intro j n hj h0 h1
    refine ⟨n, Ev.step (f := fun _ => some n) (fun k => ?_) (Ev.now _), h0, h1⟩
    simp only [laws_numberOf.l0]; rw [if_neg (by omega)]
  | succ d ih =>
    intro j n hj h0 h1
    have hlt : j < l.length := by omega
    have hb := byt_rd hl j hlt
    obtain ⟨r, g, g0, g1⟩ := ih (j + 1) (Int.tmod (31 * n + rd l (j : Int)) 1000003) (by omega) (Int.tmod_nonneg _ (by omega)) (Int.tmod_lt_of_pos _ (by omega))
    refine ⟨r, Ev.step (fun k => ?_) g, g0, g1⟩
    simp only [laws_numberOf.l0]
    rw [if_pos (by omega), if_pos (by omega), if_pos (by omega), w64 (x := 31 * n) (by omega) (by omega), w64 (x := rd l (j : Int)) (by omega) (by omega), w64 (by omega) (by omega), wj (n := l.length) hlt (by omega)]
theorem numberOf_ev {m : List Int} (hm : Byt m) (hn : m.length ≤ 1048576) : ∃ n, Ev (fun k => laws_numberOf.f k m) n ∧ 0 ≤ n ∧ n < 1000003 := number_l hm hn m.length 0 0 (by omega) (by omega) (by omega)

theorem rowP_filter (p : Int → Bool) (s : Int) : ∀ (d i : Nat), (rowP s i d).filter (fun x => p x.f1) = if p s = true then rowP s i d else []
  | 0, i => by unfold rowP; simp
  | d + 1, i => by
    unfold rowP
    rw [List.filter_cons, rowP_filter p s d (i + 1)]
    show (if p s = true then _ else _) = _
    by_cases c : p s = true <;> simp [c]
theorem genP_filter (p : Int → Bool) (m : Nat) : ∀ l, genP m (l.filter p) = (genP m l).filter (fun x => p x.f1)
  | [] => rfl
  | s :: t => by
    rw [List.filter_cons]
    conv => rhs; rw [genP, List.filter_append, rowP_filter, ← genP_filter p m t]
    by_cases c : p s = true
    · rw [if_pos c, if_pos c, genP]
    · rw [if_neg c, if_neg c, List.nil_append]
theorem sortPt_filter (p : S31 → Bool) (l : List S31) : sortPt (l.filter p) = (sortPt l).filter p := by
  rw [sortPt_eq, sortPt_eq]
  refine List.Perm.eq_of_pairwise (fun a b _ _ => leP_anti a b) (List.pairwise_mergeSort leP_trans leP_total _) ((List.pairwise_mergeSort leP_trans leP_total l).filter p) ?_
  exact (List.mergeSort_perm _ leP).trans ((List.mergeSort_perm l leP).symm.filter p)
theorem genP_mem (m : Nat) (x : S31) : ∀ l, x ∈ genP m l → x.f1 ∈ l
  | [], h => by simp [genP] at h
  | s :: t, h => by
    rw [genP, List.mem_append] at h
    rcases h with h | h
    · have : ∀ d i, x ∈ rowP s i d → x.f1 = s := fun d => by
        induction d with
        | zero => intro i h; simp [rowP] at h
        | succ d ih =>
          intro i h
          rw [rowP, List.mem_cons] at h
          rcases h with h | h
          · rw [h]; rfl
          · exact ih _ h
      rw [this m 0 h]; exact List.mem_cons_self
    · exact List.mem_cons_of_mem _ (genP_mem m x t h)
def pickH (h : Int) (l : List S31) : S31 := (l.find? (fun x => decide (x.f0 ≥ h))).getD (l.headD z31)
theorem fst_find (h : Int) : ∀ (l : List S31) (i : Nat), (fstH h l (i : Int) = -1 ∧ l.find? (fun x => decide (x.f0 ≥ h)) = none) ∨ ∃ j, fstH h l (i : Int) = ((i + j : Nat) : Int) ∧ j < l.length ∧ l.find? (fun x => decide (x.f0 ≥ h)) = l[j]?
  | [], i => .inl ⟨rfl, rfl⟩
  | x :: xs, i => by
    unfold fstH
    by_cases c : x.f0 ≥ h
    · rw [if_pos c, List.find?_cons_of_pos (by simpa using c)]
      exact .inr ⟨0, by simp, by simp, rfl⟩
    · rw [if_neg c, List.find?_cons_of_neg (by simpa using c)]
      rcases fst_find h xs (i + 1) with ⟨e1, e2⟩ | ⟨j, e1, e2, e3⟩
      · exact .inl ⟨by rw [← e1]; rfl, e2⟩
      · exact .inr ⟨j + 1, by rw [show (i : Int) + 1 = ((i + 1 : Nat) : Int) from rfl, e1]; congr 1; omega, by simp; omega, by rw [e3]; rfl⟩
theorem pick_idx (h : Int) (l : List S31) (hl : 0 < l.length) : (l.getD (max (fstH h l 0) 0).toNat z31) = pickH h l := by
  unfold pickH
  rcases fst_find h l 0 with ⟨e1, e2⟩ | ⟨j, e1, e2, e3⟩
  · rw [show (0 : Int) = ((0 : Nat) : Int) from rfl, e1, e2]
    cases l with
    | nil => simp at hl
    | cons x xs => rfl
  · rw [show (0 : Int) = ((0 : Nat) : Int) from rfl, e1, e3, show (max (((0 + j : Nat)) : Int) ((0 : Nat) : Int)).toNat = j by omega, List.getD_eq_getElem?_getD, List.getElem?_eq_getElem e2]
    rfl
theorem pick_mem (h : Int) (l : List S31) (hl : 0 < l.length) : pickH h l ∈ l := by
  unfold pickH
  cases e : l.find? (fun x => decide (x.f0 ≥ h)) with
  | some y => exact List.mem_of_find?_eq_some e
  | none =>
    cases l with
    | nil => simp at hl
    | cons x xs => exact List.mem_cons_self
theorem pick_filter (h : Int) (p : S31 → Bool) (l : List S31) (hl : 0 < l.length) (hp : p (pickH h l) = true) : pickH h (l.filter p) = pickH h l := by
  have key : ∀ l : List S31, (∀ y, l.find? (fun x => decide (x.f0 ≥ h)) = some y → p y = true → (l.filter p).find? (fun x => decide (x.f0 ≥ h)) = some y) ∧ (l.find? (fun x => decide (x.f0 ≥ h)) = none → (l.filter p).find? (fun x => decide (x.f0 ≥ h)) = none) := fun l => by
    constructor
    · induction l with
      | nil => intro y e; simp at e
      | cons x xs ih =>
        intro y e hy
        by_cases c : x.f0 ≥ h
        · rw [List.find?_cons_of_pos (by simpa using c)] at e
          cases e
          rw [List.filter_cons, if_pos hy, List.find?_cons_of_pos (by simpa using c)]
        · rw [List.find?_cons_of_neg (by simpa using c)] at e
          rw [List.filter_cons]
          split
          · rw [List.find?_cons_of_neg (by simpa using c)]; exact ih y e hy
          · exact ih y e hy
    · intro e
      rw [List.find?_eq_none] at *
      exact fun x hx => e x (List.mem_filter.1 hx).1
  unfold pickH at *
  cases e : l.find? (fun x => decide (x.f0 ≥ h)) with
  | some y =>
    rw [e] at hp
    rw [(key l).1 y e hp]
    rfl
  | none =>
    rw [e] at hp
    rw [(key l).2 e]
    cases l with
    | nil => simp at hl
    | cons x xs =>
      have hx : p x = true := hp
      rw [List.filter_cons, if_pos hx]
      rfl
theorem sorted_at {l : List S31} (h : l.Pairwise (fun x y => leP x y = true)) (i : Nat) (hi : i + 1 < l.length) : leP l[i] l[i + 1] = true :=
  List.pairwise_iff_getElem.1 h i (i + 1) (by omega) hi (by omega)
theorem dn_ok {l : List S31} (h : l.Pairwise (fun x y => leP x y = true)) : ∀ n, n < l.length → dnB l n = true
  | 0, _ => rfl
  | n + 1, hn => by
    have h1 := sorted_at h n hn
    unfold dnB
    rw [dn_ok h n (by omega), ltOf_pt, getD_at hn, getD_at (show n < l.length by omega), Bool.and_true]
    rw [leP_iff] at h1
    rw [decide_eq_false h1]
    rfl
theorem all_ok : ∀ l : List S31, (∀ x ∈ l, 0 ≤ x.f1 ∧ x.f1 ≤ 99) → allO okSv l = some true
  | [], _ => rfl
  | x :: xs, h => by
    unfold allO okSv
    rw [decide_eq_true (h x List.mem_cons_self)]
    exact all_ok xs (fun y hy => h y (List.mem_cons_of_mem _ hy))
/-- A good ring: sorted, of good servers. -/
def goodR (l : List S31) : Prop := 0 < l.length ∧ l.length ≤ 96 ∧ l.Pairwise (fun x y => leP x y = true) ∧ ∀ x ∈ l, 0 ≤ x.f1 ∧ x.f1 ≤ 99
theorem server_impl {l : List S31} (h : goodR l) (key : ByteArray) (hk : key.size ≤ 100) : impl_RingServer.f l key = some ((pickH (hashT key) l).f1, true) := by
  obtain ⟨h0, h1, h2, h3⟩ := h
  unfold impl_RingServer.f ringSv
  rw [if_pos (by omega), if_neg (by omega), if_pos (dn_ok h2 _ (by omega)), if_pos (all_ok l h3), pick_idx _ l h0]
theorem server_l1 (l : List S31) (h0 : 0 < l.length) (hl : l.length ≤ 96) (h : Int) (d : Nat) : ∀ j, j + d = l.length →
    (∀ i, i < j → ∀ x, l[i]? = some x → ¬ x.f0 ≥ h) → Ev (fun k => spec_RingServer.l1 k l h l (l.length : Int) (j : Int)) ((pickH h l).f1, true) := by
  induction d with
  | zero =>
    intro j hj hn
    have e : l.find? (fun x => decide (x.f0 ≥ h)) = none := List.find?_eq_none.2 (fun x hx => by
      obtain ⟨i, hi, rfl⟩ := List.getElem_of_mem hx
      have := hn i (by omega) _ (List.getElem?_eq_getElem hi)
      simpa using this)
    refine Ev.step (f := fun _ => some ((pickH h l).f1, true)) (fun k => ?_) (Ev.now _)
    simp only [spec_RingServer.l1]
    rw [if_neg (by omega), if_pos (by omega)]
    unfold pickH
    rw [e]
    cases l with
    | nil => simp at h0
    | cons x xs => rfl
  | succ d ih =>
    intro j hj hn
    have hlt : j < l.length := by omega
    have er : rd_T31 l (j : Int) = l[j] := by show l.getD (j : Int).toNat z31 = _; rw [Int.toNat_natCast, getD_at hlt]
    by_cases c : l[j].f0 ≥ h
    · have e : l.find? (fun x => decide (x.f0 ≥ h)) = some l[j] := by
        have hd := List.drop_eq_getElem_cons hlt
        have hnone : (l.take j).find? (fun x => decide (x.f0 ≥ h)) = none := List.find?_eq_none.2 (fun x hx => by
          obtain ⟨i, hi, rfl⟩ := List.getElem_of_mem hx
          rw [List.getElem_take]
          have := hn i (by rw [List.length_take] at hi; omega) _ (List.getElem?_eq_getElem (by rw [List.length_take] at hi; omega))
          simpa using this)
        have hl2 := List.take_append_drop j l
        generalize l[j] = y at c hd
        rw [← hl2, hd, List.find?_append, hnone, List.find?_cons_of_pos (by simpa using c)]
        rfl
      refine Ev.step (f := fun _ => some ((pickH h l).f1, true)) (fun k => ?_) (Ev.now _)
      simp only [spec_RingServer.l1]
      rw [if_pos (by omega), if_pos (by omega), if_pos (by omega), er, if_pos c]
      unfold pickH
      rw [e]
      rfl
    · refine Ev.step (fun k => ?_) (ih (j + 1) (by omega) (fun i hi x hx => by
        rcases Nat.lt_succ_iff_lt_or_eq.1 hi with h' | rfl
        · exact hn i h' x hx
        · rw [List.getElem?_eq_getElem hlt] at hx; cases hx; exact c))
      simp only [spec_RingServer.l1]
      rw [if_pos (by omega), if_pos (by omega), if_pos (by omega), er, if_neg c, wj (n := l.length) hlt (by omega)]
theorem server_l0 {l : List S31} (hg : goodR l) (key : ByteArray) (hk : key.size ≤ 100) (d : Nat) : ∀ j, j + d = l.length →
    Ev (fun k => spec_RingServer.l0 k l key l (l.length : Int) (j : Int)) ((pickH (hashT key) l).f1, true) := by
  obtain ⟨h0, h1, h2, h3⟩ := hg
  induction d with
  | zero =>
    intro j hj
    refine Ev.step (f := fun k => (spec_HashOf.f k key).bind fun t281 => (spec_RingServer.l1 k l t281 l (l.length : Int) 0)) (fun k => ?_) (Ev.bind (specHash_ev key (by omega)) (server_l1 l h0 h1 _ l.length 0 (by omega) (fun i hi => by omega)))
    simp only [spec_RingServer.l0]
    rw [if_neg (by omega), l1In_eq, Option.bind_some, if_pos (by rw [decide_eq_true_eq]; omega)]
  | succ d ih =>
    intro j hj
    have hlt : j < l.length := by omega
    have er : rd_T31 l (j : Int) = l[j] := by show l.getD (j : Int).toNat z31 = _; rw [Int.toNat_natCast, getD_at hlt]
    have hx := h3 l[j] (List.getElem_mem hlt)
    refine Ev.step (fun k => ?_) (ih (j + 1) (by omega))
    simp only [spec_RingServer.l0]
    rw [if_pos (by omega), if_pos (by omega), if_pos (by omega), er, l1In_eq, Option.bind_some, if_pos (by rw [decide_eq_true_eq]; exact hx)]
    by_cases c : (j : Int) > 0
    · obtain ⟨i, rfl⟩ : ∃ i, j = i + 1 := ⟨j - 1, by omega⟩
      have ew : wrap64 (((i + 1 : Nat) : Int) - 1) = (i : Int) := by rw [w64 (by omega) (by omega)]; omega
      have er2 : rd_T31 l (i : Int) = l[i] := by show l.getD (i : Int).toNat z31 = _; rw [Int.toNat_natCast, getD_at (by omega)]
      have hs := sorted_at h2 i hlt
      have hf : ltP l[i + 1] l[i] = false := by unfold leP at hs; simpa using hs
      rw [if_pos c, ew, if_pos (by omega), if_pos (by omega), er2, less_is, Option.bind_some, hf, if_neg (by simp), wj (n := l.length) hlt (by omega)]
    · rw [if_neg c, wj (n := l.length) hlt (by omega)]
theorem good_ring {l : List Int} (hs : srvP l) (h0 : 0 < l.length) (m : Nat) (h1 : 1 ≤ m) (h8 : m ≤ 8) : goodR (sortPt (genP m l)) := by
  have hlen : (sortPt (genP m l)).length = l.length * m := by rw [sortPt_length, genP_length]
  refine ⟨?_, ?_, ?_, fun x hx => ?_⟩
  · rw [hlen]; exact Nat.mul_pos h0 h1
  · rw [hlen]; exact Nat.mul_le_mul hs.2.2 h8
  · rw [sortPt_eq]; exact List.pairwise_mergeSort leP_trans leP_total _
  · rw [sortPt_eq] at hx
    exact hs.1 _ (genP_mem m x l ((List.mergeSort_perm _ leP).mem_iff.1 hx))
theorem drawRing_ok {l : List Int} (hl : Byt l) : ∃ r key, Ev (fun k => spec_DrawRingServer.f k l) (r, key) ∧ key.size ≤ 100 := by
  unfold spec_DrawRingServer.f
  obtain ⟨sv, a1, s1, g1, l1, u1, v1⟩ := servers_ok hl 0 0 (by omega) (by omega)
  obtain ⟨n, a2, s2, e2, p2, q2, u2, v2⟩ := pick_ok hl a1 s1 4 (by omega) (by omega)
  obtain ⟨c, b, h1, _, _⟩ := RingOf_both sv (by omega) (wrap64 (1 + n))
  by_cases cl : (c.length : Int) > 1
  · obtain ⟨o, a3, s3, e3, u3, v3⟩ := one_ok hl a2 s2 12 (by omega) (by omega)
    by_cases co : o = true
    · obtain ⟨n4, a4, s4, e4, p4, q4, u4, v4⟩ := pick_ok hl a3 s3 9 (by omega) (by omega)
      obtain ⟨key, a5, s5, g5, z5, u5, v5⟩ := ringKey_ok hl a4 s4 (by omega) (by omega)
      refine ⟨(c.set (0 : Int).toNat ⟨(rd_T31 c 1).f0, (rd_T31 c 1).f1⟩).set (1 : Int).toNat ⟨n4 % 4294967296, (rd_T31 (c.set (0 : Int).toNat ⟨(rd_T31 c 1).f0, (rd_T31 c 1).f1⟩) 1).f1⟩, key, Ev.bind g1 ?_, z5⟩
      simp only [e2, Option.bind_some]
      refine Ev.bind h1 ?_
      simp only [if_pos cl, e3, Option.bind_some, if_pos co, if_pos (show 1 < (c.length : Int) by omega), if_pos (show 0 < (c.length : Int) by omega), e4]
      exact Ev.bind g5 (Ev.now _)
    · obtain ⟨key, a5, s5, g5, z5, u5, v5⟩ := ringKey_ok hl a3 s3 (by omega) (by omega)
      refine ⟨c, key, Ev.bind g1 ?_, z5⟩
      simp only [e2, Option.bind_some]
      refine Ev.bind h1 ?_
      simp only [if_pos cl, e3, Option.bind_some, if_neg co]
      exact Ev.bind g5 (Ev.now _)
  · obtain ⟨key, a5, s5, g5, z5, u5, v5⟩ := ringKey_ok hl a2 s2 (by omega) (by omega)
    refine ⟨c, key, Ev.bind g1 ?_, z5⟩
    simp only [e2, Option.bind_some]
    refine Ev.bind h1 ?_
    simp only [if_neg cl]
    exact Ev.bind g5 (Ev.now _)
theorem loop_same (x1 x5 : List Int) (x6 : Int) (x7 : List S31) (x8 : Bool) (h : x7.length ≤ 1000) (r : Bool) (hr : Ev (fun k => laws_FnRing.l0 k x1 x5 x6 x7 x8 x7 (x7.length : Int) (x7.length : Int)) r) (d : Nat) : ∀ j, j + d = x7.length → Ev (fun k => laws_FnRing.l0 k x1 x5 x6 x7 x8 x7 (x7.length : Int) (j : Int)) r := by
  induction d with
  | zero => intro j hj; rw [Nat.add_zero] at hj; rw [hj]; exact hr
  | succ d ih =>
    intro j hj
    refine Ev.step (fun k => ?_) (ih (j + 1) (by omega))
    simp only [laws_FnRing.l0]
    rw [if_pos (by omega), if_pos (by omega), if_pos (by omega), if_pos (by omega), if_neg (by simp), wj (n := x7.length) (by omega) (by omega)]
theorem take_small (l : List Int) (g : Nat) (h : l.length ≤ 12) : (l.take g).length < 17592186044416 := by
  have := List.length_take_le' g l
  omega
theorem cut_small (l : List Int) (g : Nat) (h : l.length ≤ 12) : (l.take g).length + (l.drop (g + 1)).length < 17592186044416 := by
  have h1 := List.length_take_le' g l
  have h2 : (l.drop (g + 1)).length ≤ l.length := by rw [List.length_drop]; omega
  omega
theorem Ring_last (h s : Int) (R : List S31) (gr : goodR R) (gq : goodR (R.filter (fun x => !decide (x.f1 = s)))) : (pickH h (R.filter (fun x => !decide (x.f1 = s)))).f1 ≠ s ∧ ((pickH h R).f1 ≠ s → pickH h (R.filter (fun x => !decide (x.f1 = s))) = pickH h R) := by
  constructor
  · have := (List.mem_filter.1 (pick_mem h _ gq.1)).2
    intro e
    rw [e] at this
    simp at this
  · intro c
    exact pick_filter h _ _ gr.1 (by simp [c])
theorem Ring_big {m : List Int} (hm : Byt m) (hn : m.length ≤ 1048576) (l : List Int) (hl12 : l.length ≤ 12) (c2 : ¬ (l.length : Int) < 2) (a : Int) (R : List S31) (gr : goodR R)
    (hQ : ∀ (g : Nat) (hg : g < l.length), Ev (fun k => impl_RingOf.f k (l.eraseIdx g) a) (R.filter (fun x => !decide (x.f1 = l[g])), true) ∧ goodR (R.filter (fun x => !decide (x.f1 = l[g])))) :
    Ev (fun k => laws_FnRing.l0 k m l a R true R (R.length : Int) (R.length : Int)) true := by
  obtain ⟨n, n1, n2, n3⟩ := numberOf_ev hm hn
  have g0 : 0 ≤ Int.tmod n (l.length : Int) := Int.tmod_nonneg _ n2
  have g1' : Int.tmod n (l.length : Int) < (l.length : Int) := Int.tmod_lt_of_pos _ (by omega)
  obtain ⟨g, hg⟩ : ∃ g : Nat, Int.tmod n (l.length : Int) = (g : Int) := ⟨(Int.tmod n (l.length : Int)).toNat, by omega⟩
  have hgl : g < l.length := by omega
  obtain ⟨k2, gq⟩ := hQ g hgl
  obtain ⟨r1, key, d1, dk⟩ := drawRing_ok hm
  obtain ⟨hne, hsame⟩ := Ring_last (hashT key) l[g] R gr gq
  have i1 := server_impl gr key dk
  have i2 := server_impl gq key dk
  have s1 := server_l0 gr key dk R.length 0 (Nat.zero_add _)
  have er : rd l (g : Int) = l[g] := by rw [rdj, getD_at hgl]
  generalize R.filter (fun x => !decide (x.f1 = l[g])) = Q at k2 gq hne hsame i2
  generalize l[g] = sg at hne hsame er
  have ew2 : wrap64 ((g : Int) + 1) = ((g + 1 : Nat) : Int) := by rw [w64 (by omega) (by omega)]; omega
  have e1 := take_small l g hl12
  have e2 := cut_small l g hl12
  have f1 : ¬ (l.length : Int) = 0 := by omega
  have f2 : (0 : Int) ≤ (g : Int) := by omega
  have f3 : (g : Int) ≤ (l.length : Int) := by omega
  have f4 : (0 : Int) ≤ ((g + 1 : Nat) : Int) := by omega
  have f5 : ((g + 1 : Nat) : Int) ≤ (l.length : Int) := by omega
  have f6 : (g : Int) < (l.length : Int) := by omega
  have hstep : ∀ k, laws_FnRing.l0 (k + 1) m l a R true R (R.length : Int) (R.length : Int) = _ := fun k => by
    simp only [laws_FnRing.l0]
    rw [if_neg (Int.lt_irrefl _), if_pos trivial, if_neg c2]
  refine Ev.step hstep (Ev.bind n1 ?_)
  simp only [if_neg f1, hg, Option.bind_some, ew2, Int.toNat_natCast, if_pos f2, if_pos f3, List.nil_append, List.length_nil, Nat.zero_add, if_pos e1, if_pos f4, if_pos f5, if_pos e2]
  rw [← List.eraseIdx_eq_take_drop_succ]
  refine Ev.bind k2 (Ev.bind d1 ?_)
  simp only [i1, i2, Option.bind_some]
  refine Ev.bind s1 ?_
  simp only [if_true, er, if_pos f6]
  by_cases c : (pickH (hashT key) R).f1 = sg
  · simp only [if_pos c, bne_iff_ne.2 hne]; exact Ev.now _
  · simp only [if_neg c, hsame c, if_true, bne_iff_ne.2 c]; exact Ev.now _
theorem len_small (l : List Int) (a : Int) (ha : 1 ≤ a ∧ a ≤ 8) (h : l.length < 2) : (((l.length * a.toNat : Nat) : Int) == wrap64 ((l.length : Int) * a)) = true := by
  rw [beq_iff_eq]
  rcases (show l.length = 0 ∨ l.length = 1 by omega) with e | e
  · rw [e, Nat.zero_mul, show ((0 : Nat) : Int) * a = 0 by simp, w64 (by omega) (by omega)]; rfl
  · rw [e, Nat.one_mul, show ((1 : Nat) : Int) * a = a by simp, w64 (by omega) (by omega)]; omega
theorem Ring_small (m l : List Int) (a : Int) (R : List S31) (hR : R.length = l.length * a.toNat) (ha : 1 ≤ a ∧ a ≤ 8) (c2 : (l.length : Int) < 2) : Ev (fun k => laws_FnRing.l0 k m l a R true R (R.length : Int) (R.length : Int)) true := by
  have h := len_small l a ha (by omega)
  refine Ev.step (f := fun _ => some true) (fun k => ?_) (Ev.now _)
  simp only [laws_FnRing.l0]
  rw [if_neg (Int.lt_irrefl _), if_pos trivial, if_pos c2, hR, h]
theorem Ring_end {m : List Int} (hm : Byt m) (hn : m.length ≤ 1048576) (l : List Int) (hs : srvP l) (a : Int) (ha : 1 ≤ a ∧ a ≤ 8) : Ev (fun k => laws_FnRing.l0 k m l a (sortPt (genP a.toNat l)) true (sortPt (genP a.toNat l)) ((sortPt (genP a.toNat l)).length : Int) ((sortPt (genP a.toNat l)).length : Int)) true := by
  have hlen : (sortPt (genP a.toNat l)).length = l.length * a.toNat := by rw [sortPt_length, genP_length]
  have hl12 := hs.2.2
  have m1 : 1 ≤ a.toNat := by clear hlen; omega
  have m8 : a.toNat ≤ 8 := by clear hlen; omega
  by_cases c2 : (l.length : Int) < 2
  · exact Ring_small m l a _ hlen ha c2
  have l0 : 0 < l.length := by clear hlen; omega
  refine Ring_big hm hn l hl12 c2 a _ (good_ring hs l0 _ m1 m8) (fun g hgl => ?_)
  obtain ⟨hse, hef⟩ := srv_erase hs g hgl
  have hel : (l.eraseIdx g).length = l.length - 1 := List.length_eraseIdx_of_lt hgl
  have hq : sortPt (genP a.toNat (l.eraseIdx g)) = (sortPt (genP a.toNat l)).filter (fun x => !decide (x.f1 = l[g])) := by
    rw [← sortPt_filter]
    congr 1
    conv => lhs; rw [hef]
    exact genP_filter (fun x => !decide (x = l[g])) _ l
  rw [← hq]
  refine ⟨?_, good_ring hse (by clear hlen; omega) _ m1 m8⟩
  obtain ⟨c, b, _, k2, k3⟩ := RingOf_both (l.eraseIdx g) (by clear hlen; omega) a
  rcases k3 with ⟨e1, _, _, _, e2⟩ | ⟨_, _, e⟩
  · rw [e1, e2] at k2; exact k2
  · exact absurd ⟨hse, ha.1, ha.2⟩ e
theorem FnRing : laws_FnRing.Pure := by
  intro c m hc0 hc1 hc2 hm0 hm1 hm2
  have hc := byt_of hc2
  have hm := byt_of hm2
  refine Ev.law ?_
  unfold laws_FnRing.f
  have ew : wrap64 ((c.length : Int) + (m.length : Int)) = (c.length : Int) + (m.length : Int) := w64 (by omega) (by omega)
  rw [ew]
  by_cases cl : (c.length : Int) + (m.length : Int) > 1048576
  · exact Ev.congr (fun k => by rw [if_pos cl]) (Ev.now _)
  simp only [if_neg cl]
  obtain ⟨l, a1, s1, g1, l1, u1, v1⟩ := servers_ok hc 0 0 (by omega) (by omega)
  obtain ⟨a, a2, s2, e2, p2, q2, u2, v2⟩ := pick_ok hc a1 s1 10 (by omega) (by omega)
  have hdraw : Ev (fun k => spec_DrawRingOf.f k c) (l, a) := by
    unfold spec_DrawRingOf.f
    refine Ev.bind g1 ?_
    simp only [e2, Option.bind_some]
    exact Ev.now _
  obtain ⟨r, b, h1, h2, h3⟩ := RingOf_both l (by omega) a
  refine Ev.bind hdraw (Ev.bind h2 (Ev.bind h1 ?_))
  simp only [bne_self_eq_false, Bool.false_eq_true, if_false, if_true]
  rcases h3 with ⟨rfl, hs, ha1, ha2, rfl⟩ | ⟨rfl, rfl, _⟩
  · have hlen : (sortPt (genP a.toNat l)).length ≤ 96 := by
      rw [sortPt_length, genP_length]
      exact Nat.mul_le_mul hs.2.2 (show a.toNat ≤ 8 by omega)
    exact loop_same m l a _ true (by omega) true (Ring_end hm (by omega) l hs a ⟨ha1, ha2⟩) _ 0 (Nat.zero_add _)
  · refine Ev.step (f := fun _ => some true) (fun k => ?_) (Ev.now _)
    simp only [laws_FnRing.l0]
    rw [if_neg (by simp), if_neg (by simp)]
    rfl

end Go.Proofs.YtapnfghkfjkinaaDoor.Pure
