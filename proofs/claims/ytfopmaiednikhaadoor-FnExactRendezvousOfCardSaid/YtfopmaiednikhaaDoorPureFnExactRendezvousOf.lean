/- RendezvousOf answers as the reference does, and writes into no argument: the pure part. -/
import Derived.Test.YtfopmaiednikhaaDoorPFnExactRendezvousOfx4
namespace Go.Proofs.YtfopmaiednikhaaDoor.Pure
open Go.RowKit Go.Proofs.YtfopmaiednikhaaDoor.PFnExactRendezvousOf Go.Proofs.YtfopmaiednikhaaDoorW.PrintWords Go.Proofs.YtfopmaiednikhaaDoorW.PrintLast Go.Proofs.YtfopmaiednikhaaDoorW.PrintMore Go.Proofs.YtfopmaiednikhaaDoorOwn
set_option linter.unusedVariables false
set_option linter.unusedSimpArgs false

theorem wj {j n : Nat} (h : j < n) (hn : n ≤ 4611686018427387904) : wrap64 ((j : Int) + 1) = ((j + 1 : Nat) : Int) := by
  unfold wrap64; omega
theorem w64 {x : Int} (h0 : -9223372036854775808 ≤ x) (h1 : x ≤ 9223372036854775807) : wrap64 x = x := by
  unfold wrap64; omega
theorem rdj (l : List Int) (j : Nat) : rd l (j : Int) = l.getD j 0 := rfl
theorem getD_at {α : Type} {l : List α} {j : Nat} (h : j < l.length) (z : α) : l.getD j z = l[j] := by
  rw [List.getD_eq_getElem?_getD, List.getElem?_eq_getElem h]; rfl
theorem Ev.law {g : Nat → Option Bool} (h : Ev g true) : ∃ k, g k = some true := h.rounds
theorem l1In_eq (a b c : Int) : spec_l1In.f a b c = some (decide (b ≤ a ∧ a ≤ c)) := by
  unfold spec_l1In.f; by_cases h : b ≤ a <;> simp [h]
theorem within_eq (a b c : Int) : impl_within.f a b c = some (decide (b ≤ a ∧ a ≤ c)) := by
  unfold impl_within.f; by_cases h : b ≤ a <;> simp [h]

theorem toIntS_l (l : List Int) (hn : l.length ≤ 1048576) (d : Nat) : ∀ (j : Nat) (x3 : List Int), j + d = l.length → x3.length = l.length → (∀ i, i < j → x3[i]? = l[i]?) →
    Ev (fun k => laws_toIntS.l0 k l x3 (j : Int)) l := by
  induction d with
  | zero =>
    intro j x3 hj h3 he
    refine Ev.step (f := fun _ => some l) (fun k => ?_) (Ev.now _)
    simp only [laws_toIntS.l0]
    rw [if_neg (by omega)]
    refine congrArg some (List.ext_getElem? fun i => ?_)
    by_cases hi : i < j
    · exact he i hi
    · rw [List.getElem?_eq_none (by omega), List.getElem?_eq_none (by omega)]
  | succ d ih =>
    intro j x3 hj h3 he
    refine Ev.step (fun k => ?_) (ih (j + 1) (x3.set j (rd l j)) (by omega) (by simpa using h3) (fun i hi => ?_))
    · simp only [laws_toIntS.l0]
      rw [if_pos (by omega), if_pos (by omega), if_pos (by omega), wj (n := l.length) (by omega) (by omega)]
      rfl
    · rw [List.getElem?_set]
      split
      · rename_i h
        subst h
        rw [if_pos (by omega), rdj, getD_at (by omega), List.getElem?_eq_getElem (by omega)]
      · exact he i (by omega)
theorem toIntS_ev (l : List Int) (hn : l.length ≤ 1048576) : Ev (fun k => laws_toIntS.f k l) l := by
  refine Ev.congr (fun k => ?_) (toIntS_l l hn l.length 0 (List.replicate l.length 0) (by omega) (by simp) (fun i hi => by omega))
  simp only [laws_toIntS.f]
  rw [if_pos (by omega), if_pos (by omega)]
  rfl

theorem eqIntS_l (l : List Int) (hn : l.length ≤ 1048576) (d : Nat) : ∀ (j : Nat), j + d = l.length → Ev (fun k => laws_eqIntS.l0 k l l (j : Int)) true := by
  induction d with
  | zero =>
    intro j hj
    refine Ev.step (f := fun _ => some true) (fun k => ?_) (Ev.now _)
    simp only [laws_eqIntS.l0]
    rw [if_neg (by omega)]
  | succ d ih =>
    intro j hj
    refine Ev.step (fun k => ?_) (ih (j + 1) (by omega))
    simp only [laws_eqIntS.l0]
    rw [if_pos (by omega), if_pos (by omega), if_pos (by omega), if_pos trivial, wj (n := l.length) (by omega) (by omega)]
theorem eqIntS_ev (l : List Int) (hn : l.length ≤ 1048576) : Ev (fun k => laws_eqIntS.f k l l) true := by
  refine Ev.congr (fun k => ?_) (eqIntS_l l hn l.length 0 (by omega))
  simp only [laws_eqIntS.f]
  rw [if_pos trivial]
  rfl

def srvP (l : List Int) : Prop := (∀ x ∈ l, 0 ≤ x ∧ x ≤ 99) ∧ (∀ j, j + 1 < l.length → l.getD j 0 < l.getD (j + 1) 0) ∧ l.length ≤ 12
theorem specSrv_l (l : List Int) (hn : l.length ≤ 1048576) (d : Nat) : ∀ (j : Nat), j + d = l.length → (∀ i, i < j → 0 ≤ l.getD i 0 ∧ l.getD i 0 ≤ 99) → (∀ i, i + 1 < j → l.getD i 0 < l.getD (i + 1) 0) →
    ∃ b, Ev (fun k => spec_l14Servers.l0 k l l (l.length : Int) (j : Int)) b ∧ (b = true ↔ srvP l) := by
  induction d with
  | zero =>
    intro j hj h1 h2
    refine ⟨decide ((l.length : Int) ≤ 12), Ev.step (f := fun _ => some (decide ((l.length : Int) ≤ 12))) (fun k => ?_) (Ev.now _), ?_⟩
    · simp only [spec_l14Servers.l0]; rw [if_neg (by omega)]
    · rw [decide_eq_true_eq]
      refine ⟨fun h => ⟨fun x hx => ?_, fun i hi => h2 i (by omega), by omega⟩, fun h => by have := h.2.2; omega⟩
      obtain ⟨i, hi, rfl⟩ := List.getElem_of_mem hx
      have := h1 i (by omega)
      rw [getD_at hi] at this; exact this
  | succ d ih =>
    intro j hj h1 h2
    have hlt : j < l.length := by omega
    have hstep : ∀ k, spec_l14Servers.l0 (k + 1) l l (l.length : Int) (j : Int) = if 0 ≤ l.getD j 0 ∧ l.getD j 0 ≤ 99 then (if (j : Int) > 0 then (if l.getD (j - 1) 0 ≥ l.getD j 0 then some false else spec_l14Servers.l0 k l l (l.length : Int) ((j + 1 : Nat) : Int)) else spec_l14Servers.l0 k l l (l.length : Int) ((j + 1 : Nat) : Int)) else some false := fun k => by
      simp only [spec_l14Servers.l0]
      rw [if_pos (by omega), if_pos (by omega), if_pos (by omega), l1In_eq, wj (n := l.length) hlt (by omega), rdj]
      simp only [Option.bind_some, decide_eq_true_eq]
      by_cases cB : 0 ≤ l.getD j 0 ∧ l.getD j 0 ≤ 99
      rotate_left
      · rw [if_neg cB, if_neg cB]
      rw [if_pos cB, if_pos cB]
      by_cases c0 : (j : Int) > 0
      · rw [if_pos c0, if_pos c0, w64 (x := (j : Int) - 1) (by omega) (by omega), if_pos (by omega), if_pos (by omega), show (j : Int) - 1 = ((j - 1 : Nat) : Int) by omega, rdj]
      · rw [if_neg c0, if_neg c0]
    have bad : ¬ srvP l → ∀ (h : ∀ k, spec_l14Servers.l0 (k + 1) l l (l.length : Int) (j : Int) = some false), ∃ b, Ev (fun k => spec_l14Servers.l0 k l l (l.length : Int) (j : Int)) b ∧ (b = true ↔ srvP l) := fun hb h => ⟨false, Ev.step (f := fun _ => some false) h (Ev.now _), ⟨fun e => (by cases e), fun e => absurd e hb⟩⟩
    by_cases c1 : 0 ≤ l.getD j 0 ∧ l.getD j 0 ≤ 99
    · by_cases c2 : (j : Int) > 0
      · by_cases c3 : l.getD (j - 1) 0 ≥ l.getD j 0
        · refine bad (fun h => ?_) (fun k => by rw [hstep, if_pos c1, if_pos c2, if_pos c3])
          have := h.2.1 (j - 1) (by omega)
          rw [show j - 1 + 1 = j by omega] at this
          omega
        · obtain ⟨b, e1, e2⟩ := ih (j + 1) (by omega) (fun i hi => by
            by_cases e : i = j
            · rw [e]; exact c1
            · exact h1 i (by omega)) (fun i hi => by
            by_cases e : i + 1 = j
            · obtain rfl : i = j - 1 := by omega
              rw [show j - 1 + 1 = j by omega]; omega
            · exact h2 i (by omega))
          exact ⟨b, Ev.step (fun k => by rw [hstep, if_pos c1, if_pos c2, if_neg c3]) e1, e2⟩
      · obtain ⟨b, e1, e2⟩ := ih (j + 1) (by omega) (fun i hi => by
          by_cases e : i = j
          · rw [e]; exact c1
          · exact h1 i (by omega)) (fun i hi => by omega)
        exact ⟨b, Ev.step (fun k => by rw [hstep, if_pos c1, if_neg c2]) e1, e2⟩
    · refine bad (fun h => ?_) (fun k => by rw [hstep, if_neg c1])
      exact c1 (by rw [getD_at hlt]; exact h.1 _ (List.getElem_mem hlt))
theorem allSrv_iff : ∀ l : List Int, ∃ b, impl_areAll_int__69.f l = some b ∧ (b = true ↔ ∀ x ∈ l, 0 ≤ x ∧ x ≤ 99)
  | [] => ⟨true, rfl, by simp⟩
  | x :: xs => by
    obtain ⟨b, h1, h2⟩ := allSrv_iff xs
    have e : impl_areAll_int__69.f (x :: xs) = if 0 ≤ x ∧ x ≤ 99 then impl_areAll_int__69.f xs else some false := by
      show (impl_isServer.f x).bind _ = _
      unfold impl_isServer.f
      rw [within_eq]
      by_cases c : 0 ≤ x ∧ x ≤ 99
      · rw [decide_eq_true c, if_pos c]; rfl
      · rw [decide_eq_false c, if_neg c]; rfl
    by_cases c : 0 ≤ x ∧ x ≤ 99
    · exact ⟨b, by rw [e, if_pos c, h1], by rw [h2]; simp [c]⟩
    · exact ⟨false, by rw [e, if_neg c], ⟨fun h => (by cases h), fun h => absurd (h x List.mem_cons_self) c⟩⟩
theorem implSrv_l (l : List Int) (hn : l.length ≤ 1048576) (d : Nat) : ∀ (j : Nat), 1 ≤ j → j + d = l.length ∨ (j = 1 ∧ l.length = 0 ∧ d = 0) → (∀ i, i + 1 < j → l.getD i 0 < l.getD (i + 1) 0) →
    ∃ b, Ev (fun k => impl_areServers.l0 k l (j : Int)) b ∧ (b = true ↔ srvP l) := by
  induction d with
  | zero =>
    intro j hj1 hj h2
    have hstep : ∀ k, impl_areServers.l0 (k + 1) l (j : Int) = if (l.length : Int) ≤ 12 then ((impl_areAll_int__69.f l).bind fun t167 => (some t167)) else (some false) := fun k => by
      simp only [impl_areServers.l0]; rw [if_neg (by omega)]
    obtain ⟨b, e1, e2⟩ := allSrv_iff l
    by_cases c : (l.length : Int) ≤ 12
    · refine ⟨b, Ev.step (f := fun _ => some b) (fun k => by rw [hstep, if_pos c, e1]; rfl) (Ev.now _), ?_⟩
      rw [e2]
      exact ⟨fun h => ⟨h, fun i hi => h2 i (by omega), by omega⟩, fun h => h.1⟩
    · exact ⟨false, Ev.step (f := fun _ => some false) (fun k => by rw [hstep, if_neg c]) (Ev.now _), ⟨fun h => (by cases h), fun h => absurd h.2.2 (by omega)⟩⟩
  | succ d ih =>
    intro j hj1 hj h2
    have hlt : j < l.length := by omega
    have hstep : ∀ k, impl_areServers.l0 (k + 1) l (j : Int) = if l.getD j 0 ≤ l.getD (j - 1) 0 then some false else impl_areServers.l0 k l ((j + 1 : Nat) : Int) := fun k => by
      simp only [impl_areServers.l0]
      rw [if_pos (by omega), if_pos (by omega), w64 (x := (j : Int) - 1) (by omega) (by omega), if_pos (by omega), if_pos (by omega), wj (n := l.length) hlt (by omega), show (j : Int) - 1 = ((j - 1 : Nat) : Int) by omega, rdj, rdj]
    by_cases c : l.getD j 0 ≤ l.getD (j - 1) 0
    · refine ⟨false, Ev.step (f := fun _ => some false) (fun k => by rw [hstep, if_pos c]) (Ev.now _), ⟨fun h => (by cases h), fun h => ?_⟩⟩
      have := h.2.1 (j - 1) (by omega)
      rw [show j - 1 + 1 = j by omega] at this
      omega
    · obtain ⟨b, e1, e2⟩ := ih (j + 1) (by omega) (.inl (by omega)) (fun i hi => by
        by_cases e : i + 1 = j
        · obtain rfl : i = j - 1 := by omega
          rw [show j - 1 + 1 = j by omega]; omega
        · exact h2 i (by omega))
      exact ⟨b, Ev.step (fun k => by rw [hstep, if_neg c]) e1, e2⟩
theorem srv_both (l : List Int) (hn : l.length ≤ 1048576) : ∃ b, Ev (fun k => spec_l14Servers.f k l) b ∧ Ev (fun k => impl_areServers.f k l) b ∧ (b = true → srvP l) ∧ (srvP l → b = true) := by
  obtain ⟨b, h1, h2⟩ := specSrv_l l hn l.length 0 (by omega) (fun i hi => by omega) (fun i hi => by omega)
  obtain ⟨b', h3, h4⟩ := implSrv_l l hn (l.length - 1) 1 (Nat.le_refl _) (by omega) (fun i hi => by omega)
  have e : b = b' := Bool.eq_iff_iff.2 (h2.trans h4.symm)
  subst e
  exact ⟨b, h1, h3, h2.1, h2.2⟩
theorem num_all : ∀ n : Nat, n < 100 → spec_l1Num.f 2 (n : Int) = some (numT n) := by decide +kernel
theorem num_ev (x : Int) (h : 0 ≤ x ∧ x < 100) : Ev (fun k => spec_l1Num.f k x) (numT x.toNat) := by
  refine ⟨2, fun k hk => at_rounds (fun k => (spec_l1Num.mono_l k) x) hk ?_⟩
  have := num_all x.toNat (by omega)
  rw [show ((x.toNat : Nat) : Int) = x by omega] at this
  exact this
theorem specHash_l (s : ByteArray) (hs : s.size ≤ 4611686018427387904) (d : Nat) : ∀ (j : Nat) (h : Int), j + d = s.size →
    Ev (fun k => spec_HashOf.l0 k s h (j : Int)) (Go.bits .xor .u32 (((Go.bits .xor .u32 (hashN s d j h) ((hashN s d j h) / 32768)) * 2246822507) % 4294967296) ((((Go.bits .xor .u32 (hashN s d j h) ((hashN s d j h) / 32768)) * 2246822507) % 4294967296) / 8192)) := by
  induction d with
  | zero =>
    intro j h hj
    refine Ev.step (f := fun _ => some _) (fun k => ?_) (Ev.now _)
    simp only [spec_HashOf.l0]; rw [if_neg (by omega)]; rfl
  | succ d ih =>
    intro j h hj
    refine Ev.step (fun k => ?_) (ih (j + 1) _ (by omega))
    simp only [spec_HashOf.l0]
    rw [if_pos (by omega), if_pos (by omega), wj (n := s.size) (by omega) (by omega)]
theorem specHash_ev (s : ByteArray) (hs : s.size ≤ 4611686018427387904) : Ev (fun k => spec_HashOf.f k s) (hashT s) := specHash_l s hs s.size 0 _ (by omega)
theorem keyT_ev {β : Type} (key : ByteArray) (hk : key.size ≤ 1152921504606846976) (x : Int) (h : 0 ≤ x ∧ x < 100) (K : Nat → Int → Option β) (r : β) (hK : Ev (fun k => K k (hashT (keyT key x))) r) :
    Ev (fun k => (spec_l1Num.f k x).bind fun t => if t.size + 1 ≤ 9223372036854775807 then (if (t ++ (⟨#[47]⟩ : ByteArray)).size + key.size ≤ 9223372036854775807 then ((spec_HashOf.f k ((t ++ (⟨#[47]⟩ : ByteArray)) ++ key)).bind fun q => K k q) else none) else none) r := by
  have hd := digits_size x.toNat
  have h1 : (⟨#[47]⟩ : ByteArray).size = 1 := rfl
  refine Ev.bind (num_ev x h) ?_
  simp only [if_pos (show (numT x.toNat).size + 1 ≤ 9223372036854775807 by omega), ByteArray.size_append, if_pos (show (numT x.toNat).size + (⟨#[47]⟩ : ByteArray).size + key.size ≤ 9223372036854775807 by omega)]
  exact Ev.bind (specHash_ev _ (by simp only [ByteArray.size_append]; omega)) hK
theorem ins_l (key : ByteArray) (hk : key.size ≤ 1152921504606846976) (x : Int) (out l : List Int) (hout : ∀ y ∈ out, 0 ≤ y ∧ y < 100) (hlen : out.length ≤ 1000000) (i : Nat) (hi : i < l.length) (hl : l.length ≤ 1048576) (R : List Int) (d : Nat) : ∀ (j : Nat), j + d = out.length →
    Ev (fun k => spec_l14Ranked.l0 k key (out.take j ++ insD (fun x => hashT (keyT key x)) x (out.drop j)) l (l.length : Int) ((i + 1 : Nat) : Int)) R →
    Ev (fun k => spec_l14Ranked.l1 k key out x (hashT (keyT key x)) (j : Int) l (l.length : Int) (i : Int)) R := by
  induction d with
  | zero =>
    intro j hj hR
    obtain rfl : j = out.length := by omega
    rw [List.drop_of_length_le (Nat.le_refl _), List.take_of_length_le (Nat.le_refl _)] at hR
    refine Ev.step (fun k => ?_) hR
    simp only [spec_l14Ranked.l1]
    rw [if_neg (by omega), if_pos (by omega), if_pos (by omega)]
    simp only [Option.bind_some, Int.toNat_natCast, List.take_of_length_le (Nat.le_refl out.length), List.drop_of_length_le (Nat.le_refl out.length), List.nil_append, List.length_nil, Nat.zero_add, List.append_nil, insD, wj (n := l.length) hi (by omega)]
    rw [if_pos (by omega), if_pos (by omega), if_pos (by simp; omega)]
  | succ d ih =>
    intro j hj hR
    have hlt : j < out.length := by omega
    have hy := hout _ (List.getElem_mem hlt)
    have er : rd out (j : Int) = out[j] := by rw [rdj, getD_at hlt]
    refine Ev.step (f := fun k => (spec_l1Num.f k out[j]).bind fun t => if t.size + 1 ≤ 9223372036854775807 then (if (t ++ (⟨#[47]⟩ : ByteArray)).size + key.size ≤ 9223372036854775807 then ((spec_HashOf.f k ((t ++ (⟨#[47]⟩ : ByteArray)) ++ key)).bind fun q => if q ≥ hashT (keyT key x) then spec_l14Ranked.l1 k key out x (hashT (keyT key x)) ((j + 1 : Nat) : Int) l (l.length : Int) (i : Int) else spec_l14Ranked.l0 k key (out.take j ++ x :: out.drop j) l (l.length : Int) ((i + 1 : Nat) : Int)) else none) else none) (fun k => ?_) (keyT_ev key hk out[j] hy _ _ ?_)
    · simp only [spec_l14Ranked.l1]
      rw [if_pos (by omega), if_pos (by omega), er]
      refine congrArg _ (funext fun t => ?_)
      split
      · split
        · refine congrArg _ (funext fun q => ?_)
          split
          · rw [wj (n := out.length) hlt (by omega)]
          · simp only [Option.bind_some, Int.toNat_natCast, List.nil_append, List.length_nil, Nat.zero_add, wj (n := l.length) hi (by omega)]
            rw [if_pos (by omega), if_pos (by simp; omega), if_pos (by simp; omega), if_pos (by simp; omega)]
            simp
        · rfl
      · rfl
    · rw [List.drop_eq_getElem_cons hlt] at hR
      simp only [insD] at hR
      by_cases c : hashT (keyT key out[j]) ≥ hashT (keyT key x)
      · simp only [if_pos c]
        rw [if_pos (show hashT (keyT key x) ≤ hashT (keyT key out[j]) from c)] at hR
        refine ih (j + 1) (by omega) ?_
        rw [List.take_succ_eq_append_getElem hlt, List.append_assoc]
        exact hR
      · simp only [if_neg c]
        rw [if_neg (show ¬ hashT (keyT key x) ≤ hashT (keyT key out[j]) from c), ← List.drop_eq_getElem_cons hlt] at hR
        exact hR
theorem rank_l (key : ByteArray) (hk : key.size ≤ 1152921504606846976) (l : List Int) (hx : ∀ x ∈ l, 0 ≤ x ∧ x < 100) (hl : l.length ≤ 1000) (d : Nat) : ∀ (i : Nat) (out : List Int), i + d = l.length → out.length = i → (∀ y ∈ out, 0 ≤ y ∧ y < 100) →
    Ev (fun k => spec_l14Ranked.l0 k key out l (l.length : Int) (i : Int)) ((l.drop i).foldl (fun out x => insD (fun x => hashT (keyT key x)) x out) out) := by
  induction d with
  | zero =>
    intro i out hi ho hout
    rw [List.drop_of_length_le (by omega)]
    refine Ev.step (f := fun _ => some out) (fun k => ?_) (Ev.now _)
    simp only [spec_l14Ranked.l0]; rw [if_neg (by omega)]
  | succ d ih =>
    intro i out hi ho hout
    have hlt : i < l.length := by omega
    have hxi := hx _ (List.getElem_mem hlt)
    have er : rd l (i : Int) = l[i] := by rw [rdj, getD_at hlt]
    rw [List.drop_eq_getElem_cons hlt, List.foldl_cons]
    refine Ev.step (f := fun k => (spec_l1Num.f k l[i]).bind fun t => if t.size + 1 ≤ 9223372036854775807 then (if (t ++ (⟨#[47]⟩ : ByteArray)).size + key.size ≤ 9223372036854775807 then ((spec_HashOf.f k ((t ++ (⟨#[47]⟩ : ByteArray)) ++ key)).bind fun q => spec_l14Ranked.l1 k key out l[i] q 0 l (l.length : Int) (i : Int)) else none) else none) (fun k => ?_) (keyT_ev key hk l[i] hxi _ _ ?_)
    · simp only [spec_l14Ranked.l0]
      rw [if_pos (by omega), if_pos (by omega), if_pos (by omega), er]
    · refine ins_l key hk l[i] out l hout (by omega) i hlt (by omega) _ out.length 0 (by omega) ?_
      rw [List.take_zero, List.drop_zero, List.nil_append]
      refine ih (i + 1) _ (by omega) (by rw [insD_length]; omega) (fun y hy => ?_)
      rcases (insD_mem _ _ _ _).1 hy with e | e
      · rw [e]; exact hxi
      · exact hout y e
def rankT (key : ByteArray) (l : List Int) : List Int := rankL (fun x => hashT (keyT key x)) l
theorem rank_spec (key : ByteArray) (hk : key.size ≤ 1152921504606846976) (l : List Int) (h : srvP l) : Ev (fun k => spec_l14Ranked.f k l key) (rankT key l) := by
  have := h.2.2
  have hr := rank_l key hk l (fun x hx => by have := h.1 x hx; omega) (by omega) l.length 0 [] (by omega) rfl (by simp)
  rw [List.drop_zero] at hr
  exact hr
theorem rank_impl (key : ByteArray) (hk : key.size ≤ 1152921504606846976) (l : List Int) (h : srvP l) : impl_ranked.f l key = some (rankT key l) := by
  unfold impl_ranked.f
  rw [if_pos ⟨by have := h.2.2; omega, fun x hx => by have := h.1 x hx; omega, hk⟩]
  rfl

theorem rankT_pos (key : ByteArray) (l : List Int) (h : ¬ (l.length : Int) = 0) : (0 : Int) < ((rankT key l).length : Int) := by
  unfold rankT; rw [rankL_length]; omega
theorem RendezvousOf_both (l : List Int) (key : ByteArray) (hl : l.length ≤ 1048576) (hk : key.size ≤ 1152921504606846976) : ∃ c b, Ev (fun k => spec_RendezvousOf.f k l key) (c, b) ∧ Ev (fun k => impl_RendezvousOf.f k l key) (c, b) := by
  obtain ⟨b, h1, h2, h3, _⟩ := srv_both l hl
  unfold spec_RendezvousOf.f impl_RendezvousOf.f
  by_cases c : b = true
  · by_cases c0 : (l.length : Int) = 0
    · refine ⟨0, false, Ev.bind h1 ?_, Ev.bind h2 ?_⟩
      · simp only [if_pos c, if_pos c0]; exact Ev.now _
      · simp only [if_pos c, if_pos c0]; exact Ev.now _
    · refine ⟨rd (rankT key l) 0, true, Ev.bind h1 ?_, Ev.bind h2 ?_⟩
      · simp only [if_pos c, if_neg c0]
        refine Ev.bind (rank_spec key hk l (h3 c)) ?_
        simp only [if_pos (rankT_pos key l c0)]; exact Ev.now _
      · simp only [if_pos c, if_neg c0, rank_impl key hk l (h3 c), Option.bind_some, if_pos (rankT_pos key l c0)]; exact Ev.now _
  · refine ⟨0, false, Ev.bind h1 ?_, Ev.bind h2 ?_⟩
    · simp only [if_neg c]; exact Ev.now _
    · simp only [if_neg c]; exact Ev.now _
theorem FnExactRendezvousOf : laws_FnExactRendezvousOf.Pure := by
  intro l s _ _ _ _
  refine Ev.law ?_
  unfold laws_FnExactRendezvousOf.f
  by_cases hn : (l.length : Int) > 1048576
  · exact Ev.congr (fun k => by rw [if_pos hn]) (Ev.now _)
  by_cases hs : (s.size : Int) > 1048576
  · exact Ev.congr (fun k => by rw [if_neg hn, if_pos hs]) (Ev.now _)
  simp only [if_neg hn, if_neg hs]
  obtain ⟨c, b, h2, h1⟩ := RendezvousOf_both l s (by omega) (by omega)
  have t0 := toIntS_ev l (by omega)
  refine Ev.bind t0 (Ev.bind h2 (Ev.bind t0 (Ev.bind h1 ?_)))
  simp only [if_true, bne_self_eq_false]
  refine Ev.step (fun k => by simp only [laws_FnExactRendezvousOf.j0]; rw [if_neg (by simp)]) (Ev.bind t0 (Ev.bind (eqIntS_ev l (by omega)) ?_))
  simp only [if_true]
  exact Ev.now _

end Go.Proofs.YtfopmaiednikhaaDoor.Pure
