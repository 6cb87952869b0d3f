/- The ring of servers is the same by insertion and by a sort. -/
import Derived.Test.YtfopmaiednikhaaDoorPFnExactRingOfx7
namespace Go.Proofs.YtfopmaiednikhaaDoor.Pure
open Go.RowKit Go.Proofs.YtfopmaiednikhaaDoor.PFnExactRingOf Go.Proofs.YtfopmaiednikhaaDoorW.PrintWords Go.Proofs.YtfopmaiednikhaaDoorW.PrintLast Go.Proofs.YtfopmaiednikhaaDoorW.PrintMore Go.Proofs.YtfopmaiednikhaaDoorOwn
set_option linter.unusedVariables false
set_option linter.unusedSimpArgs false

theorem wj {j n : Nat} (h : j < n) (hn : n ≤ 4611686018427387904) : wrap64 ((j : Int) + 1) = ((j + 1 : Nat) : Int) := by
  unfold wrap64; omega
theorem w64 {x : Int} (h0 : -9223372036854775808 ≤ x) (h1 : x ≤ 9223372036854775807) : wrap64 x = x := by
  unfold wrap64; omega
theorem rdj (l : List Int) (j : Nat) : rd l (j : Int) = l.getD j 0 := rfl
theorem getD_at {α : Type} {l : List α} {j : Nat} (h : j < l.length) (z : α) : l.getD j z = l[j] := by
  rw [List.getD_eq_getElem?_getD, List.getElem?_eq_getElem h]; rfl
theorem Ev.law {g : Nat → Option Bool} (h : Ev g true) : ∃ k, g k = some true := h.rounds
theorem l1In_eq (a b c : Int) : spec_l1In.f a b c = some (decide (b ≤ a ∧ a ≤ c)) := by
  unfold spec_l1In.f; by_cases h : b ≤ a <;> simp [h]
theorem within_eq (a b c : Int) : impl_within.f a b c = some (decide (b ≤ a ∧ a ≤ c)) := by
  unfold impl_within.f; by_cases h : b ≤ a <;> simp [h]

theorem toIntS_l (l : List Int) (hn : l.length ≤ 1048576) (d : Nat) : ∀ (j : Nat) (x3 : List Int), j + d = l.length → x3.length = l.length → (∀ i, i < j → x3[i]? = l[i]?) →
    Ev (fun k => laws_toIntS.l0 k l x3 (j : Int)) l := by
  induction d with
  | zero =>
    intro j x3 hj h3 he
    refine Ev.step (f := fun _ => some l) (fun k => ?_) (Ev.now _)
    simp only [laws_toIntS.l0]
    rw [if_neg (by omega)]
    refine congrArg some (List.ext_getElem? fun i => ?_)
    by_cases hi : i < j
    · exact he i hi
    · rw [List.getElem?_eq_none (by omega), List.getElem?_eq_none (by omega)]
  | succ d ih =>
    intro j x3 hj h3 he
    refine Ev.step (fun k => ?_) (ih (j + 1) (x3.set j (rd l j)) (by omega) (by simpa using h3) (fun i hi => ?_))
    · simp only [laws_toIntS.l0]
      rw [if_pos (by omega), if_pos (by omega), if_pos (by omega), wj (n := l.length) (by omega) (by omega)]
      rfl
    · rw [List.getElem?_set]
      split
      · rename_i h
        subst h
        rw [if_pos (by omega), rdj, getD_at (by omega), List.getElem?_eq_getElem (by omega)]
      · exact he i (by omega)
theorem toIntS_ev (l : List Int) (hn : l.length ≤ 1048576) : Ev (fun k => laws_toIntS.f k l) l := by
  refine Ev.congr (fun k => ?_) (toIntS_l l hn l.length 0 (List.replicate l.length 0) (by omega) (by simp) (fun i hi => by omega))
  simp only [laws_toIntS.f]
  rw [if_pos (by omega), if_pos (by omega)]
  rfl

theorem eqIntS_l (l : List Int) (hn : l.length ≤ 1048576) (d : Nat) : ∀ (j : Nat), j + d = l.length → Ev (fun k => laws_eqIntS.l0 k l l (j : Int)) true := by
  induction d with
  | zero =>
    intro j hj
    refine Ev.step (f := fun _ => some true) (fun k => ?_) (Ev.now _)
    simp only [laws_eqIntS.l0]
    rw [if_neg (by omega)]
  | succ d ih =>
    intro j hj
    refine Ev.step (fun k => ?_) (ih (j + 1) (by omega))
    simp only [laws_eqIntS.l0]
    rw [if_pos (by omega), if_pos (by omega), if_pos (by omega), if_pos trivial, wj (n := l.length) (by omega) (by omega)]
theorem eqIntS_ev (l : List Int) (hn : l.length ≤ 1048576) : Ev (fun k => laws_eqIntS.f k l l) true := by
  refine Ev.congr (fun k => ?_) (eqIntS_l l hn l.length 0 (by omega))
  simp only [laws_eqIntS.f]
  rw [if_pos trivial]
  rfl

theorem markIntS_l {n : Nat} (hn : n ≤ 1048576) (d : Nat) : ∀ (l : List Int) (c j : Nat), l.length = n → j + d = n → c ≤ 2097152 + j → ∃ l', Ev (fun k => laws_markIntS.l0 k l (c : Int) (j : Int)) (((c + d : Nat) : Int), l') := by
  induction d with
  | zero =>
    intro l c j hl hj hc
    refine ⟨l, Ev.step (f := fun _ => some (((c : Nat) : Int), l)) (fun k => ?_) (Ev.now _)⟩
    simp only [laws_markIntS.l0]; rw [if_neg (by omega)]
  | succ d ih =>
    intro l c j hl hj hc
    obtain ⟨l', h⟩ := ih (l.set j (c : Int)) (c + 1) (j + 1) (by simpa using hl) (by omega) (by omega)
    rw [show c + 1 + d = c + (d + 1) from by omega] at h
    refine ⟨l', Ev.step (fun k => ?_) h⟩
    simp only [laws_markIntS.l0]
    rw [if_pos (by omega), if_pos (by omega), w64 (x := (c : Int) + 1) (by omega) (by omega), wj (j := j) (n := n) (by omega) (by omega)]
    rfl
theorem markIntS_ev (l : List Int) (hn : l.length ≤ 1048576) : ∃ l', Ev (fun k => laws_markIntS.f k l 1) (((1 + l.length : Nat) : Int), l') := by
  obtain ⟨l', h⟩ := markIntS_l (n := l.length) hn l.length l 1 0 rfl (by omega) (by omega)
  exact ⟨l', h⟩

/-- The hash of a text, byte by byte. -/
def hashN (s : ByteArray) : Nat → Nat → Int → Int
  | 0, _, h => h
  | d + 1, j, h => hashN s d (j + 1) (((Go.bits .xor .u32 h ((bt s (j : Int)) % 4294967296)) * 16777619) % 4294967296)
def hashT (s : ByteArray) : Int :=
  Go.bits .xor .u32 (((Go.bits .xor .u32 (hashN s s.size 0 2166136261) ((hashN s s.size 0 2166136261) / 32768)) * 2246822507) % 4294967296) ((((Go.bits .xor .u32 (hashN s s.size 0 2166136261) ((hashN s s.size 0 2166136261) / 32768)) * 2246822507) % 4294967296) / 8192)
theorem hashN_is (s : ByteArray) (hs : s.size ≤ 4611686018427387904) (d : Nat) : ∀ (j k : Nat) (h : Int), j + d = s.size → d < k → impl_hashed.l0 k h s (s.size : Int) (j : Int) = some (hashN s d j h) := by
  induction d with
  | zero =>
    intro j k h hj hk
    obtain ⟨k, rfl⟩ : ∃ m, k = m + 1 := ⟨k - 1, by omega⟩
    simp only [impl_hashed.l0]; rw [if_neg (by omega)]; rfl
  | succ d ih =>
    intro j k h hj hk
    obtain ⟨k, rfl⟩ : ∃ m, k = m + 1 := ⟨k - 1, by omega⟩
    simp only [impl_hashed.l0]
    rw [if_pos (by omega), if_pos (by omega), if_pos (by omega), show wrap64 ((j : Int) + 1) = ((j + 1 : Nat) : Int) by unfold wrap64; omega, ih (j + 1) k _ (by omega) (by omega)]
    rfl
theorem hashT_is (s : ByteArray) (hs : s.size ≤ 4611686018427387904) : impl_HashOf.f (s.size + 1) s = some (hashT s) := by
  unfold impl_HashOf.f impl_hashed.f
  rw [show (0 : Int) = ((0 : Nat) : Int) from rfl, hashN_is s hs s.size 0 (s.size + 1) _ (by omega) (by omega)]
  rfl
theorem digits_size (n : Nat) : (numT n).size ≤ 2 := by
  unfold numT; split
  · show 1 ≤ 2; omega
  · show 2 ≤ 2; omega
theorem implHash_ev (s : ByteArray) (hs : s.size ≤ 4611686018427387904) : Ev (fun k => impl_HashOf.f k s) (hashT s) :=
  ⟨s.size + 1, fun k hk => at_rounds (fun k => impl_HashOf.mono s k) hk (hashT_is s hs)⟩

def srvP (l : List Int) : Prop := (∀ x ∈ l, 0 ≤ x ∧ x ≤ 99) ∧ (∀ j, j + 1 < l.length → l.getD j 0 < l.getD (j + 1) 0) ∧ l.length ≤ 12
theorem specSrv_l (l : List Int) (hn : l.length ≤ 1048576) (d : Nat) : ∀ (j : Nat), j + d = l.length → (∀ i, i < j → 0 ≤ l.getD i 0 ∧ l.getD i 0 ≤ 99) → (∀ i, i + 1 < j → l.getD i 0 < l.getD (i + 1) 0) →
    ∃ b, Ev (fun k => spec_l14Servers.l0 k l l (l.length : Int) (j : Int)) b ∧ (b = true ↔ srvP l) := by
  induction d with
  | zero =>
    intro j hj h1 h2
    refine ⟨decide ((l.length : Int) ≤ 12), Ev.step (f := fun _ => some (decide ((l.length : Int) ≤ 12))) (fun k => ?_) (Ev.now _), ?_⟩
    · simp only [spec_l14Servers.l0]; rw [if_neg (by omega)]
    · rw [decide_eq_true_eq]
      refine ⟨fun h => ⟨fun x hx => ?_, fun i hi => h2 i (by omega), by omega⟩, fun h => by have := h.2.2; omega⟩
      obtain ⟨i, hi, rfl⟩ := List.getElem_of_mem hx
      have := h1 i (by omega)
      rw [getD_at hi] at this; exact this
  | succ d ih =>
    intro j hj h1 h2
    have hlt : j < l.length := by omega
    have hstep : ∀ k, spec_l14Servers.l0 (k + 1) l l (l.length : Int) (j : Int) = if 0 ≤ l.getD j 0 ∧ l.getD j 0 ≤ 99 then (if (j : Int) > 0 then (if l.getD (j - 1) 0 ≥ l.getD j 0 then some false else spec_l14Servers.l0 k l l (l.length : Int) ((j + 1 : Nat) : Int)) else spec_l14Servers.l0 k l l (l.length : Int) ((j + 1 : Nat) : Int)) else some false := fun k => by
      simp only [spec_l14Servers.l0]
      rw [if_pos (by omega), if_pos (by omega), if_pos (by omega), l1In_eq, wj (n := l.length) hlt (by omega), rdj]
      simp only [Option.bind_some, decide_eq_true_eq]
      by_cases cB : 0 ≤ l.getD j 0 ∧ l.getD j 0 ≤ 99
      rotate_left
      · rw [if_neg cB, if_neg cB]
      rw [if_pos cB, if_pos cB]
      by_cases c0 : (j : Int) > 0
      · rw [if_pos c0, if_pos c0, w64 (x := (j : Int) - 1) (by omega) (by omega), if_pos (by omega), if_pos (by omega), show (j : Int) - 1 = ((j - 1 : Nat) : Int) by omega, rdj]
      · rw [if_neg c0, if_neg c0]
    have bad : ¬ srvP l → ∀ (h : ∀ k, spec_l14Servers.l0 (k + 1) l l (l.length : Int) (j : Int) = some false), ∃ b, Ev (fun k => spec_l14Servers.l0 k l l (l.length : Int) (j : Int)) b ∧ (b = true ↔ srvP l) := fun hb h => ⟨false, Ev.step (f := fun _ => some false) h (Ev.now _), ⟨fun e => (by cases e), fun e => absurd e hb⟩⟩
    by_cases c1 : 0 ≤ l.getD j 0 ∧ l.getD j 0 ≤ 99
    · by_cases c2 : (j : Int) > 0
      · by_cases c3 : l.getD (j - 1) 0 ≥ l.getD j 0
        · refine bad (fun h => ?_) (fun k => by rw [hstep, if_pos c1, if_pos c2, if_pos c3])
          have := h.2.1 (j - 1) (by omega)
          rw [show j - 1 + 1 = j by omega] at this
          omega
        · obtain ⟨b, e1, e2⟩ := ih (j + 1) (by omega) (fun i hi => by
            by_cases e : i = j
            · rw [e]; exact c1
            · exact h1 i (by omega)) (fun i hi => by
            by_cases e : i + 1 = j
            · obtain rfl : i = j - 1 := by omega
              rw [show j - 1 + 1 = j by omega]; omega
            · exact h2 i (by omega))
          exact ⟨b, Ev.step (fun k => by rw [hstep, if_pos c1, if_pos c2, if_neg c3]) e1, e2⟩
      · obtain ⟨b, e1, e2⟩ := ih (j + 1) (by omega) (fun i hi => by
          by_cases e : i = j
          · rw [e]; exact c1
          · exact h1 i (by omega)) (fun i hi => by omega)
        exact ⟨b, Ev.step (fun k => by rw [hstep, if_pos c1, if_neg c2]) e1, e2⟩
    · refine bad (fun h => ?_) (fun k => by rw [hstep, if_neg c1])
      exact c1 (by rw [getD_at hlt]; exact h.1 _ (List.getElem_mem hlt))
theorem allSrv_iff : ∀ l : List Int, ∃ b, impl_areAll_int__69.f l = some b ∧ (b = true ↔ ∀ x ∈ l, 0 ≤ x ∧ x ≤ 99)
  | [] => ⟨true, rfl, by simp⟩
  | x :: xs => by
    obtain ⟨b, h1, h2⟩ := allSrv_iff xs
    have e : impl_areAll_int__69.f (x :: xs) = if 0 ≤ x ∧ x ≤ 99 then impl_areAll_int__69.f xs else some false := by
      show (impl_isServer.f x).bind _ = _
      unfold impl_isServer.f
      rw [within_eq]
      by_cases c : 0 ≤ x ∧ x ≤ 99
      · rw [decide_eq_true c, if_pos c]; rfl
      · rw [decide_eq_false c, if_neg c]; rfl
    by_cases c : 0 ≤ x ∧ x ≤ 99
    · exact ⟨b, by rw [e, if_pos c, h1], by rw [h2]; simp [c]⟩
    · exact ⟨false, by rw [e, if_neg c], ⟨fun h => (by cases h), fun h => absurd (h x List.mem_cons_self) c⟩⟩
theorem implSrv_l (l : List Int) (hn : l.length ≤ 1048576) (d : Nat) : ∀ (j : Nat), 1 ≤ j → j + d = l.length ∨ (j = 1 ∧ l.length = 0 ∧ d = 0) → (∀ i, i + 1 < j → l.getD i 0 < l.getD (i + 1) 0) →
    ∃ b, Ev (fun k => impl_areServers.l0 k l (j : Int)) b ∧ (b = true ↔ srvP l) := by
  induction d with
  | zero =>
    intro j hj1 hj h2
    have hstep : ∀ k, impl_areServers.l0 (k + 1) l (j : Int) = if (l.length : Int) ≤ 12 then ((impl_areAll_int__69.f l).bind fun t167 => (some t167)) else (some false) := fun k => by
      simp only [impl_areServers.l0]; rw [if_neg (by omega)]
    obtain ⟨b, e1, e2⟩ := allSrv_iff l
    by_cases c : (l.length : Int) ≤ 12
    · refine ⟨b, Ev.step (f := fun _ => some b) (fun k => by rw [hstep, if_pos c, e1]; rfl) (Ev.now _), ?_⟩
      rw [e2]
      exact ⟨fun h => ⟨h, fun i hi => h2 i (by omega), by omega⟩, fun h => h.1⟩
    · exact ⟨false, Ev.step (f := fun _ => some false) (fun k => by rw [hstep, if_neg c]) (Ev.now _), ⟨fun h => (by cases h), fun h => absurd h.2.2 (by omega)⟩⟩
  | succ d ih =>
    intro j hj1 hj h2
    have hlt : j < l.length := by omega
    have hstep : ∀ k, impl_areServers.l0 (k + 1) l (j : Int) = if l.getD j 0 ≤ l.getD (j - 1) 0 then some false else impl_areServers.l0 k l ((j + 1 : Nat) : Int) := fun k => by
      simp only [impl_areServers.l0]
      rw [if_pos (by omega), if_pos (by omega), w64 (x := (j : Int) - 1) (by omega) (by omega), if_pos (by omega), if_pos (by omega), wj (n := l.length) hlt (by omega), show (j : Int) - 1 = ((j - 1 : Nat) : Int) by omega, rdj, rdj]
    by_cases c : l.getD j 0 ≤ l.getD (j - 1) 0
    · refine ⟨false, Ev.step (f := fun _ => some false) (fun k => by rw [hstep, if_pos c]) (Ev.now _), ⟨fun h => (by cases h), fun h => ?_⟩⟩
      have := h.2.1 (j - 1) (by omega)
      rw [show j - 1 + 1 = j by omega] at this
      omega
    · obtain ⟨b, e1, e2⟩ := ih (j + 1) (by omega) (.inl (by omega)) (fun i hi => by
        by_cases e : i + 1 = j
        · obtain rfl : i = j - 1 := by omega
          rw [show j - 1 + 1 = j by omega]; omega
        · exact h2 i (by omega))
      exact ⟨b, Ev.step (fun k => by rw [hstep, if_neg c]) e1, e2⟩
theorem srv_both (l : List Int) (hn : l.length ≤ 1048576) : ∃ b, Ev (fun k => spec_l14Servers.f k l) b ∧ Ev (fun k => impl_areServers.f k l) b ∧ (b = true → srvP l) ∧ (srvP l → b = true) := by
  obtain ⟨b, h1, h2⟩ := specSrv_l l hn l.length 0 (by omega) (fun i hi => by omega) (fun i hi => by omega)
  obtain ⟨b', h3, h4⟩ := implSrv_l l hn (l.length - 1) 1 (Nat.le_refl _) (by omega) (fun i hi => by omega)
  have e : b = b' := Bool.eq_iff_iff.2 (h2.trans h4.symm)
  subst e
  exact ⟨b, h1, h3, h2.1, h2.2⟩
theorem num_all : ∀ n : Nat, n < 100 → spec_l1Num.f 2 (n : Int) = some (numT n) := by decide +kernel
theorem num_ev (x : Int) (h : 0 ≤ x ∧ x < 100) : Ev (fun k => spec_l1Num.f k x) (numT x.toNat) := by
  refine ⟨2, fun k hk => at_rounds (fun k => (spec_l1Num.mono_l k) x) hk ?_⟩
  have := num_all x.toNat (by omega)
  rw [show ((x.toNat : Nat) : Int) = x by omega] at this
  exact this
theorem specHash_l (s : ByteArray) (hs : s.size ≤ 4611686018427387904) (d : Nat) : ∀ (j : Nat) (h : Int), j + d = s.size →
    Ev (fun k => spec_HashOf.l0 k s h (j : Int)) (Go.bits .xor .u32 (((Go.bits .xor .u32 (hashN s d j h) ((hashN s d j h) / 32768)) * 2246822507) % 4294967296) ((((Go.bits .xor .u32 (hashN s d j h) ((hashN s d j h) / 32768)) * 2246822507) % 4294967296) / 8192)) := by
  induction d with
  | zero =>
    intro j h hj
    refine Ev.step (f := fun _ => some _) (fun k => ?_) (Ev.now _)
    simp only [spec_HashOf.l0]; rw [if_neg (by omega)]; rfl
  | succ d ih =>
    intro j h hj
    refine Ev.step (fun k => ?_) (ih (j + 1) _ (by omega))
    simp only [spec_HashOf.l0]
    rw [if_pos (by omega), if_pos (by omega), wj (n := s.size) (by omega) (by omega)]
theorem specHash_ev (s : ByteArray) (hs : s.size ≤ 4611686018427387904) : Ev (fun k => spec_HashOf.f k s) (hashT s) := specHash_l s hs s.size 0 _ (by omega)
def ltP (x y : S81) : Bool := decide (x.f0 < y.f0 ∨ x.f0 = y.f0 ∧ x.f1 < y.f1)
def leP (x y : S81) : Bool := !ltP y x
theorem leP_iff (x y : S81) : leP x y = true ↔ ¬ (y.f0 < x.f0 ∨ y.f0 = x.f0 ∧ y.f1 < x.f1) := by
  unfold leP ltP; rw [Bool.not_eq_true', decide_eq_false_iff_not]
theorem sortPt_eq (l : List S81) : sortPt l = l.mergeSort leP := by
  unfold sortPt leP ltP
  congr 1
  funext x y
  rw [ltOf_pt]
theorem leP_anti (x y : S81) (h1 : leP x y = true) (h2 : leP y x = true) : x = y := by
  rw [leP_iff] at h1 h2
  obtain ⟨a, b⟩ := x
  obtain ⟨c, d⟩ := y
  simp only at h1 h2
  obtain rfl : a = c := by omega
  obtain rfl : b = d := by omega
  rfl
theorem leP_trans (x y z : S81) (h1 : leP x y = true) (h2 : leP y z = true) : leP x z = true := by
  rw [leP_iff] at *; omega
theorem leP_total (x y : S81) : (leP x y || leP y x) = true := by
  rw [Bool.or_eq_true, leP_iff, leP_iff]; omega
def insPt (p : S81) : List S81 → List S81
  | [] => [p]
  | y :: ys => if ltP y p = true then y :: insPt p ys else p :: y :: ys
theorem insPt_perm (p : S81) : ∀ l, (insPt p l).Perm (p :: l)
  | [] => List.Perm.refl _
  | y :: ys => by
    unfold insPt
    split
    · exact ((insPt_perm p ys).cons y).trans (List.Perm.swap p y ys)
    · exact List.Perm.refl _
theorem insPt_length (p : S81) (l : List S81) : (insPt p l).length = l.length + 1 := by
  rw [(insPt_perm p l).length_eq]; rfl
theorem insPt_sorted (p : S81) : ∀ l, l.Pairwise (fun x y => leP x y = true) → (insPt p l).Pairwise (fun x y => leP x y = true)
  | [], _ => List.pairwise_singleton _ _
  | y :: ys, h => by
    obtain ⟨h1, h2⟩ := List.pairwise_cons.1 h
    unfold insPt
    split
    · rename_i c
      refine List.pairwise_cons.2 ⟨fun z hz => ?_, insPt_sorted p ys h2⟩
      rcases List.mem_cons.1 ((insPt_perm p ys).mem_iff.1 hz) with e | e
      · rw [e, leP_iff]
        unfold ltP at c
        have := of_decide_eq_true c
        omega
      · exact h1 z e
    · rename_i c
      have c1 : leP p y = true := by unfold leP; simp [c]
      exact List.pairwise_cons.2 ⟨fun z hz => by
        rcases List.mem_cons.1 hz with e | e
        · rw [e]; exact c1
        · exact leP_trans _ _ _ c1 (h1 z e), h⟩
theorem foldl_ins : ∀ (l o : List S81), o.Pairwise (fun x y => leP x y = true) → (l.foldl (fun o p => insPt p o) o).Pairwise (fun x y => leP x y = true) ∧ (l.foldl (fun o p => insPt p o) o).Perm (o ++ l)
  | [], o, h => ⟨h, by simp⟩
  | p :: l, o, h => by
    obtain ⟨h1, h2⟩ := foldl_ins l (insPt p o) (insPt_sorted p o h)
    refine ⟨h1, h2.trans ?_⟩
    exact ((insPt_perm p o).append_right l).trans (by rw [List.cons_append]; exact (List.perm_middle).symm)
theorem foldl_sort (l : List S81) : l.foldl (fun o p => insPt p o) [] = sortPt l := by
  obtain ⟨h1, h2⟩ := foldl_ins l [] List.Pairwise.nil
  rw [List.nil_append] at h2
  rw [sortPt_eq]
  exact List.Perm.eq_of_pairwise (fun a b _ _ => leP_anti a b) h1 (List.pairwise_mergeSort leP_trans leP_total l) (h2.trans (List.mergeSort_perm l leP).symm)
def textP (s i : Int) : ByteArray := (numT s.toNat ++ (⟨#[45]⟩ : ByteArray)) ++ numT i.toNat
def ptP (s i : Int) : S81 := ⟨hashT (textP s i), s⟩
def rowP (s : Int) : Nat → Nat → List S81
  | _, 0 => []
  | i, d + 1 => ptP s (i : Int) :: rowP s (i + 1) d
theorem rowP_length (s : Int) : ∀ (d i : Nat), (rowP s i d).length = d
  | 0, _ => rfl
  | d + 1, i => by unfold rowP; rw [List.length_cons, rowP_length s d]
def genP (m : Nat) : List Int → List S81
  | [] => []
  | s :: t => rowP s 0 m ++ genP m t
theorem genP_length (m : Nat) : ∀ l, (genP m l).length = l.length * m
  | [] => by simp [genP]
  | s :: t => by unfold genP; rw [List.length_append, rowP_length, genP_length m t, List.length_cons, Nat.add_mul]; omega
theorem foldl_len : ∀ (l o : List S81), (l.foldl (fun o p => insPt p o) o).length = o.length + l.length
  | [], o => by simp
  | p :: l, o => by rw [List.foldl_cons, foldl_len l, insPt_length, List.length_cons]; omega
theorem textP_size (s i : Int) : (textP s i).size ≤ 5 := by
  unfold textP
  rw [ByteArray.size_append, ByteArray.size_append]
  have h1 := digits_size s.toNat
  have h2 := digits_size i.toNat
  have h3 : (⟨#[45]⟩ : ByteArray).size = 1 := rfl
  omega
theorem dash_size (s : Int) (t : ByteArray) : (numT s.toNat ++ (⟨#[45]⟩ : ByteArray)).size + t.size ≤ 3 + t.size := by
  rw [ByteArray.size_append]
  have h1 := digits_size s.toNat
  have h3 : (⟨#[45]⟩ : ByteArray).size = 1 := rfl
  omega
theorem ringI_l1 {l : List Int} {a1 : Int} {s : Int} (hs : 0 ≤ s ∧ s < 100) (jx : Int) (m : Nat) (hm : m ≤ 8) (hma : a1 = (m : Int)) (r : List S81 × Bool) (d : Nat) : ∀ (i : Nat) (out : List S81), i + d = m → out.length + d ≤ 1000 →
    Ev (fun k => impl_RingOf.l0 k a1 (out ++ rowP s i d) l (l.length : Int) (wrap64 (jx + 1))) r → Ev (fun k => impl_RingOf.l1 k a1 out s l (l.length : Int) jx a1 (i : Int)) r := by
  induction d with
  | zero =>
    intro i out hi ho h
    refine Ev.step (fun k => ?_) h
    simp only [impl_RingOf.l1]
    rw [if_neg (by omega)]
    unfold rowP
    rw [List.append_nil]
  | succ d ih =>
    intro i out hi ho h
    have h' := ih (i + 1) (out ++ [ptP s (i : Int)]) (by omega) (by simp; omega) (by
      rw [List.append_assoc, List.singleton_append]; exact h)
    refine Ev.step (f := fun k => (impl_HashOf.f k (textP s (i : Int))).bind fun q => impl_RingOf.l1 k a1 (out ++ [(⟨q, s⟩ : S81)]) s l (l.length : Int) jx a1 ((i + 1 : Nat) : Int)) (fun k => ?_) (Ev.bind (implHash_ev _ (by have := textP_size s i; omega)) h')
    simp only [impl_RingOf.l1]
    have hd1 := digits_size s.toNat
    have hd2 := digits_size (i : Int).toNat
    have hd3 := dash_size s (numT (i : Int).toNat)
    rw [if_pos (by omega), show strconv_Itoa.f s = some (numT s.toNat) from if_pos hs, Option.bind_some, if_pos (show (numT s.toNat).size + 1 ≤ 9223372036854775807 by omega), show strconv_Itoa.f (i : Int) = some (numT (i : Int).toNat) from if_pos (show 0 ≤ (i : Int) ∧ (i : Int) < 100 by omega), Option.bind_some, if_pos (show (numT s.toNat ++ (⟨#[45]⟩ : ByteArray)).size + (numT (i : Int).toNat).size ≤ 9223372036854775807 by omega), wj (j := i) (n := m) (by omega) (by omega)]
    refine congrArg _ (funext fun q => ?_)
    rw [if_pos (by omega)]
theorem ringI_l0 {l : List Int} (hx : ∀ x ∈ l, 0 ≤ x ∧ x < 100) (hl : l.length ≤ 12) {a1 : Int} (m : Nat) (hm : m ≤ 8) (hma : a1 = (m : Int)) (d : Nat) : ∀ (j : Nat) (out : List S81), j + d = l.length → out.length = j * m →
    Ev (fun k => impl_RingOf.l0 k a1 out l (l.length : Int) (j : Int)) (sortPt (out ++ genP m (l.drop j)), true) := by
  induction d with
  | zero =>
    intro j out hj ho
    rw [List.drop_of_length_le (by omega)]
    have hb : j * m ≤ 12 * 8 := Nat.mul_le_mul (by omega) hm
    refine Ev.step (f := fun _ => some (sortPt (out ++ genP m []), true)) (fun k => ?_) (Ev.now _)
    simp only [impl_RingOf.l0]
    rw [if_neg (by omega), if_pos (by omega), genP, List.append_nil]
  | succ d ih =>
    intro j out hj ho
    have hlt : j < l.length := by omega
    have er : rd l (j : Int) = l[j] := by rw [rdj, getD_at hlt]
    have hb : j * m ≤ 12 * 8 := Nat.mul_le_mul (by omega) hm
    rw [List.drop_eq_getElem_cons hlt, genP, ← List.append_assoc]
    have h := ih (j + 1) (out ++ rowP l[j] 0 m) (by omega) (by rw [List.length_append, rowP_length, ho, Nat.add_mul, Nat.one_mul])
    rw [← wj (j := j) (n := l.length) hlt (by omega)] at h
    refine Ev.step (fun k => ?_) (ringI_l1 (hx _ (List.getElem_mem hlt)) (j : Int) m hm hma _ m 0 out (by omega) (by omega) h)
    simp only [impl_RingOf.l0]
    rw [if_pos (by omega), if_pos (by omega), if_pos (by omega), er]
    rfl
theorem less_is (x y : S81) : spec_l14Less.f x.f0 x.f1 y.f0 y.f1 = some (ltP x y) := by
  unfold spec_l14Less.f ltP
  by_cases c : x.f0 < y.f0
  · rw [if_pos c, decide_eq_true (.inl c)]
  · rw [if_neg c]
    by_cases c2 : x.f0 = y.f0
    · rw [if_pos c2]
      congr 1
      exact decide_eq_decide.2 ⟨fun h => .inr ⟨c2, h⟩, fun h => by rcases h with h | h <;> omega⟩
    · rw [if_neg c2, decide_eq_false (by omega)]
theorem rdT_at (A : List S81) (y : S81) (B : List S81) : rd_T81 (A ++ y :: B) ((A.length : Nat) : Int) = y := by
  unfold rd_T81
  rw [Int.toNat_natCast, List.getD_eq_getElem?_getD, List.getElem?_append_right (Nat.le_refl _), Nat.sub_self]
  rfl
theorem ringS_l2 {l : List Int} {a1 s : Int} (i jx : Int) (p : S81) (r : List S81 × Bool) : ∀ (B A : List S81), A.length + B.length ≤ 1000 →
    Ev (fun k => spec_RingOf.l1 k a1 (A ++ insPt p B) s (wrap64 (i + 1)) l (l.length : Int) jx) r → Ev (fun k => spec_RingOf.l2 k a1 (A ++ B) s i ((A.length : Nat) : Int) l (l.length : Int) jx p.f0 p.f1) r := by
  intro B
  induction B with
  | nil =>
    intro A hl h
    rw [List.append_nil]
    refine Ev.step (fun k => ?_) h
    simp only [spec_RingOf.l2]
    rw [if_neg (by omega), if_pos (by omega), if_pos (by omega)]
    simp only [Option.bind_some, Int.toNat_natCast, List.take_length, List.drop_length, List.nil_append, List.length_nil, Nat.zero_add, Nat.add_zero, List.append_nil]
    simp only [List.length_nil] at hl
    rw [if_pos (by omega), if_pos (by omega), if_pos (by simp; omega)]
    rfl
  | cons y B ih =>
    intro A hl h
    rw [List.length_cons] at hl
    have hlen : ((A ++ y :: B).length : Int) = (A.length : Int) + B.length + 1 := by simp; omega
    by_cases c : ltP y p = true
    · have h' := ih (A ++ [y]) (by simp; omega) (by
        rw [List.append_assoc, List.singleton_append]
        rw [insPt, if_pos c] at h
        exact h)
      rw [List.append_assoc, List.singleton_append, List.length_append, List.length_singleton] at h'
      refine Ev.step (fun k => ?_) h'
      simp only [spec_RingOf.l2]
      rw [if_pos (by omega), if_pos (by omega), rdT_at, less_is, Option.bind_some, if_pos c, wj (j := A.length) (n := A.length + 1) (by omega) (by omega)]
    · rw [insPt, if_neg c] at h
      refine Ev.step (fun k => ?_) h
      simp only [spec_RingOf.l2]
      rw [if_pos (by omega), if_pos (by omega), rdT_at, less_is, Option.bind_some, if_neg c, if_pos (by omega)]
      simp only [Option.bind_some, Int.toNat_natCast, List.take_left, List.drop_left, List.nil_append, List.length_nil, Nat.zero_add]
      rw [if_pos (by omega), if_pos (by omega), if_pos (by simp; omega), List.append_assoc, List.singleton_append]
theorem ringS_l1 {l : List Int} {a1 : Int} {s : Int} (hs : 0 ≤ s ∧ s < 100) (jx : Int) (m : Nat) (hm : m ≤ 8) (hma : a1 = (m : Int)) (r : List S81 × Bool) (d : Nat) : ∀ (i : Nat) (out : List S81), i + d = m → out.length + d ≤ 500 →
    Ev (fun k => spec_RingOf.l0 k a1 ((rowP s i d).foldl (fun o p => insPt p o) out) l (l.length : Int) (wrap64 (jx + 1))) r → Ev (fun k => spec_RingOf.l1 k a1 out s (i : Int) l (l.length : Int) jx) r := by
  induction d with
  | zero =>
    intro i out hi ho h
    refine Ev.step (fun k => ?_) h
    simp only [spec_RingOf.l1]
    rw [if_neg (by omega)]
    rfl
  | succ d ih =>
    intro i out hi ho h
    rw [rowP, List.foldl_cons] at h
    have h' := ih (i + 1) (insPt (ptP s (i : Int)) out) (by omega) (by rw [insPt_length]; omega) h
    rw [← wj (j := i) (n := m) (by omega) (by omega)] at h'
    have h2 := ringS_l2 (i : Int) jx (ptP s (i : Int)) r out [] (by simp; omega) h'
    have hd1 := digits_size s.toNat
    have hd2 := digits_size (i : Int).toNat
    have hd3 := dash_size s (numT (i : Int).toNat)
    refine Ev.step (f := fun k => (spec_l1Num.f k s).bind fun t => if t.size + 1 ≤ 9223372036854775807 then ((spec_l1Num.f k (i : Int)).bind fun t2 => if (t ++ (⟨#[45]⟩ : ByteArray)).size + t2.size ≤ 9223372036854775807 then ((spec_HashOf.f k ((t ++ (⟨#[45]⟩ : ByteArray)) ++ t2)).bind fun q => spec_RingOf.l2 k a1 out s (i : Int) 0 l (l.length : Int) jx q s) else none) else none) (fun k => ?_) (Ev.bind (num_ev s hs) ?_)
    · simp only [spec_RingOf.l1]
      rw [if_pos (by omega)]
    · simp only [if_pos (show (numT s.toNat).size + 1 ≤ 9223372036854775807 by omega)]
      refine Ev.bind (num_ev (i : Int) (by omega)) ?_
      simp only [if_pos (show (numT s.toNat ++ (⟨#[45]⟩ : ByteArray)).size + (numT (i : Int).toNat).size ≤ 9223372036854775807 by omega)]
      exact Ev.bind (specHash_ev _ (by have := textP_size s i; unfold textP at this; omega)) h2
theorem ringS_l0 {l : List Int} (hx : ∀ x ∈ l, 0 ≤ x ∧ x < 100) (hl : l.length ≤ 12) {a1 : Int} (m : Nat) (hm : m ≤ 8) (hma : a1 = (m : Int)) (d : Nat) : ∀ (j : Nat) (out : List S81), j + d = l.length → out.length = j * m →
    Ev (fun k => spec_RingOf.l0 k a1 out l (l.length : Int) (j : Int)) ((genP m (l.drop j)).foldl (fun o p => insPt p o) out, true) := by
  induction d with
  | zero =>
    intro j out hj ho
    rw [List.drop_of_length_le (by omega)]
    refine Ev.step (f := fun _ => some (out, true)) (fun k => ?_) (Ev.now _)
    simp only [spec_RingOf.l0]
    rw [if_neg (by omega)]
  | succ d ih =>
    intro j out hj ho
    have hlt : j < l.length := by omega
    have er : rd l (j : Int) = l[j] := by rw [rdj, getD_at hlt]
    have hb : j * m ≤ 12 * 8 := Nat.mul_le_mul (by omega) hm
    rw [List.drop_eq_getElem_cons hlt, genP, List.foldl_append]
    have h := ih (j + 1) ((rowP l[j] 0 m).foldl (fun o p => insPt p o) out) (by omega) (by rw [foldl_len, rowP_length, ho, Nat.add_mul, Nat.one_mul])
    rw [← wj (j := j) (n := l.length) hlt (by omega)] at h
    refine Ev.step (fun k => ?_) (ringS_l1 (hx _ (List.getElem_mem hlt)) (j : Int) m hm hma _ m 0 out (by omega) (by omega) h)
    simp only [spec_RingOf.l0]
    rw [if_pos (by omega), if_pos (by omega), if_pos (by omega), er]
    rfl
theorem inR_is (a : Int) : spec_l1In.f a 1 8 = some (decide (1 ≤ a ∧ a ≤ 8)) ∧ impl_within.f a 1 8 = some (decide (1 ≤ a ∧ a ≤ 8)) := by
  unfold spec_l1In.f impl_within.f
  constructor
  · by_cases c1 : a ≥ 1
    · rw [if_pos c1]
      congr 1
      exact decide_eq_decide.2 ⟨fun h => ⟨c1, h⟩, fun h => h.2⟩
    · rw [if_neg c1, decide_eq_false (fun h => c1 h.1)]
  · by_cases c1 : 1 ≤ a
    · rw [if_pos c1]
      congr 1
      exact decide_eq_decide.2 ⟨fun h => ⟨c1, h⟩, fun h => h.2⟩
    · rw [if_neg c1, decide_eq_false (fun h => c1 h.1)]
theorem RingOf_both (l : List Int) (hl : l.length ≤ 1048576) (a : Int) : ∃ c b, Ev (fun k => spec_RingOf.f k l a) (c, b) ∧ Ev (fun k => impl_RingOf.f k l a) (c, b) ∧ c.length ≤ 96 := by
  obtain ⟨b, h1, h2, h3, _⟩ := srv_both l hl
  obtain ⟨i1, i2⟩ := inR_is a
  unfold spec_RingOf.f impl_RingOf.f
  by_cases c : b = true
  · by_cases ca : 1 ≤ a ∧ a ≤ 8
    · obtain ⟨hx, _, h12⟩ := h3 c
      have hx' : ∀ x ∈ l, 0 ≤ x ∧ x < 100 := fun x h => by have := hx x h; omega
      obtain ⟨m, hm⟩ : ∃ m : Nat, a = (m : Int) := ⟨a.toNat, by omega⟩
      have r1 := ringS_l0 hx' h12 m (by omega) hm l.length 0 [] (by omega) (by simp)
      have r2 := ringI_l0 hx' h12 m (by omega) hm l.length 0 [] (by omega) (by simp)
      rw [List.drop_zero, foldl_sort] at r1
      rw [List.drop_zero, List.nil_append] at r2
      refine ⟨sortPt (genP m l), true, Ev.bind h1 ?_, Ev.bind h2 ?_, ?_⟩
      · simp only [if_pos c, i1, decide_eq_true ca, Option.bind_some, if_true]; exact r1
      · simp only [if_pos c, i2, decide_eq_true ca, Option.bind_some, if_true]; exact r2
      · rw [sortPt_length, genP_length]
        exact Nat.mul_le_mul h12 (show m ≤ 8 by omega)
    · refine ⟨[], false, Ev.bind h1 ?_, Ev.bind h2 ?_, by simp⟩
      · simp only [if_pos c, i1, decide_eq_false ca, Option.bind_some, Bool.false_eq_true, if_false]; exact Ev.now _
      · simp only [if_pos c, i2, decide_eq_false ca, Option.bind_some, Bool.false_eq_true, if_false]; exact Ev.now _
  · refine ⟨[], false, Ev.bind h1 ?_, Ev.bind h2 ?_, by simp⟩
    · simp only [if_neg c]; exact Ev.now _
    · simp only [if_neg c]; exact Ev.now _
theorem eqPointS_l (l : List S81) (hn : l.length ≤ 1048576) (d : Nat) : ∀ (j : Nat), j + d = l.length → Ev (fun k => laws_eqPointS.l0 k l l (j : Int)) true := by
  induction d with
  | zero =>
    intro j hj
    refine Ev.step (f := fun _ => some true) (fun k => ?_) (Ev.now _)
    simp only [laws_eqPointS.l0]
    rw [if_neg (by omega)]
  | succ d ih =>
    intro j hj
    refine Ev.step (fun k => ?_) (ih (j + 1) (by omega))
    simp only [laws_eqPointS.l0]
    have he : ∀ x y : Int, laws_eqPoint.f x y x y = some true := fun x y => by unfold laws_eqPoint.f; rw [if_pos rfl, if_pos rfl]
    rw [if_pos (by omega), if_pos (by omega), if_pos (by omega), he, Option.bind_some, if_pos rfl, wj (n := l.length) (by omega) (by omega)]
theorem eqPointS_ev (l : List S81) (hn : l.length ≤ 1048576) : Ev (fun k => laws_eqPointS.f k l l) true := by
  refine Ev.congr (fun k => ?_) (eqPointS_l l hn l.length 0 (by omega))
  simp only [laws_eqPointS.f]
  rw [if_pos trivial]
  rfl
theorem markP_l {n : Nat} (hn : n ≤ 1000) (d : Nat) : ∀ (l : List S81) (c j : Nat), l.length = n → j + d = n → c + 2 * d ≤ 3000 →
    ∃ l', Ev (fun k => laws_markPointS.l0 k l (c : Int) (j : Int)) (((c + 2 * d : Nat) : Int), l') ∧ l'.length = n ∧ (∀ i, i < j → l'[i]? = l[i]?) ∧ ∀ i, j ≤ i → i < n → l'[i]? = some ⟨((c + 2 * (i - j) : Nat) : Int), ((c + 2 * (i - j) + 1 : Nat) : Int)⟩ := by
  induction d with
  | zero =>
    intro l c j hl hj hc
    refine ⟨l, Ev.step (f := fun _ => some (((c : Nat) : Int), l)) (fun k => ?_) (Ev.now _), hl, fun _ _ => rfl, fun i h1 h2 => by omega⟩
    simp only [laws_markPointS.l0]; rw [if_neg (by omega)]
  | succ d ih =>
    intro l c j hl hj hc
    obtain ⟨l', h, h1, h2, h3⟩ := ih ((l.set j ⟨(c : Int), (rd_T81 l (j : Int)).f1⟩).set j ⟨(c : Int), ((c + 1 : Nat) : Int)⟩) (c + 2) (j + 1) (by simpa using hl) (by omega) (by omega)
    rw [show c + 2 + 2 * d = c + 2 * (d + 1) from by omega] at h
    refine ⟨l', Ev.step (fun k => ?_) h, h1, fun i hi => ?_, fun i hi hi' => ?_⟩
    · simp only [laws_markPointS.l0]
      have hr : rd_T81 (l.set j ⟨(c : Int), (rd_T81 l (j : Int)).f1⟩) (j : Int) = ⟨(c : Int), (rd_T81 l (j : Int)).f1⟩ := by
        show (l.set j ⟨(c : Int), (rd_T81 l (j : Int)).f1⟩).getD (j : Int).toNat z81 = _
        rw [Int.toNat_natCast, List.getD_eq_getElem?_getD, List.getElem?_set_self (by omega)]
        rfl
      rw [if_pos (by omega), if_pos (by omega), show ((c : Int)) % 4294967296 = (c : Int) by omega, Option.bind_some, Int.toNat_natCast, hr, w64 (x := (c : Int) + 1) (by omega) (by omega), w64 (x := (c : Int) + 1 + 1) (by omega) (by omega), wj (j := j) (n := n) (by omega) (by omega)]
      rfl
    · rw [h2 i (by omega), List.getElem?_set_ne (by omega), List.getElem?_set_ne (by omega)]
    · by_cases e : i = j
      · subst e
        rw [h2 i (by omega), List.getElem?_set_self (by simp; omega)]
        simp
      · rw [h3 i (by omega) hi', show c + 2 + 2 * (i - (j + 1)) = c + 2 * (i - j) from by omega]
theorem heldP_l (l : List S81) (hn : l.length ≤ 1000) (hl : ∀ i, i < l.length → l[i]? = some ⟨((1 + 2 * i : Nat) : Int), ((1 + 2 * i + 1 : Nat) : Int)⟩) (d : Nat) : ∀ (j : Nat), j + d = l.length →
    Ev (fun k => laws_heldPointS.l0 k l ((1 + 2 * j : Nat) : Int) (j : Int)) ((1 + 2 * l.length : Nat) : Int) := by
  induction d with
  | zero =>
    intro j hj
    obtain rfl : j = l.length := by omega
    refine Ev.step (f := fun _ => some ((1 + 2 * l.length : Nat) : Int)) (fun k => ?_) (Ev.now _)
    simp only [laws_heldPointS.l0]; rw [if_neg (by omega)]
  | succ d ih =>
    intro j hj
    have hlt : j < l.length := by omega
    have hr : rd_T81 l (j : Int) = ⟨((1 + 2 * j : Nat) : Int), ((1 + 2 * j + 1 : Nat) : Int)⟩ := by
      show l.getD (j : Int).toNat z81 = _
      rw [Int.toNat_natCast, List.getD_eq_getElem?_getD, hl j hlt]
      rfl
    refine Ev.step (fun k => ?_) (ih (j + 1) (by omega))
    simp only [laws_heldPointS.l0]
    rw [if_pos (by omega), if_pos (by omega), hr, if_pos (show ((1 + 2 * j : Nat) : Int) = ((1 + 2 * j : Nat) : Int) % 4294967296 by omega), w64 (x := ((1 + 2 * j : Nat) : Int) + 1) (by omega) (by omega), if_pos (show ((1 + 2 * j + 1 : Nat) : Int) = ((1 + 2 * j : Nat) : Int) + 1 by omega), w64 (x := ((1 + 2 * j : Nat) : Int) + 1 + 1) (by omega) (by omega), wj (j := j) (n := l.length) hlt (by omega), show ((1 + 2 * j : Nat) : Int) + 1 + 1 = ((1 + 2 * (j + 1) : Nat) : Int) by omega]
theorem markP_both (l : List S81) (hn : l.length ≤ 96) : ∃ l', Ev (fun k => laws_markPointS.f k l 1) (((1 + 2 * l.length : Nat) : Int), l') ∧ Ev (fun k => laws_heldPointS.f k l' 1) ((1 + 2 * l.length : Nat) : Int) := by
  obtain ⟨l', h, h1, _, h3⟩ := markP_l (n := l.length) (by omega) l.length l 1 0 rfl (by omega) (by omega)
  refine ⟨l', h, ?_⟩
  have := heldP_l l' (by omega) (fun i hi => by rw [h3 i (by omega) (by omega)]; rfl) l'.length 0 (by omega)
  rw [h1] at this
  exact this

theorem FnExactRingOf : laws_FnExactRingOf.Pure := by
  intro l a _ _ _ _
  refine Ev.law ?_
  unfold laws_FnExactRingOf.f
  by_cases hn : (l.length : Int) > 1048576
  · exact Ev.congr (fun k => by rw [if_pos hn]) (Ev.now _)
  simp only [if_neg hn]
  obtain ⟨c, b, h2, h1, hc⟩ := RingOf_both l (by omega) a
  obtain ⟨lm, hm⟩ := markIntS_ev l (by omega)
  obtain ⟨c', m1, m2⟩ := markP_both c hc
  have t0 := toIntS_ev l (by omega)
  have eqc := eqPointS_ev c (by omega)
  refine Ev.bind t0 (Ev.bind h2 (Ev.bind t0 (Ev.bind h1 (Ev.bind eqc ?_))))
  simp only [if_true, bne_self_eq_false, Bool.false_eq_true, if_false]
  have J0 : Ev (fun k => laws_FnExactRingOf.j0 k l a c b c false) true := by
    refine Ev.step (fun k => by simp only [laws_FnExactRingOf.j0]; rw [if_neg Bool.false_ne_true]) (Ev.bind m1 (Ev.bind m2 ?_))
    have e1 : ¬ (((1 + 2 * c.length : Nat) : Int) < 0) := by omega
    simp only [if_neg e1, if_true]
    refine Ev.bind t0 (Ev.bind h1 (Ev.bind eqc ?_))
    simp only [if_true, bne_self_eq_false, Bool.false_eq_true, if_false]
    refine Ev.bind m2 ?_
    simp only [if_neg e1, if_true]
    exact Ev.now _
  refine Ev.bind t0 (Ev.bind (eqIntS_ev l (by omega)) ?_)
  simp only [if_true]
  refine Ev.bind hm ?_
  have e2 : ¬ (((1 + l.length : Nat) : Int) < 0) := by omega
  simp only [if_neg e2]
  refine Ev.bind eqc ?_
  simp only [if_true]
  exact J0

end Go.Proofs.YtfopmaiednikhaaDoor.Pure
