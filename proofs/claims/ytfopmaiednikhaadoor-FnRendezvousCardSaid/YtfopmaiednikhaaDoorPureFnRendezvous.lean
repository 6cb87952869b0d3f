/- Two clients rank a key over the same servers alike, and losing one server moves only what it held. -/
import Derived.Test.YtfopmaiednikhaaDoorPFnRendezvousx8
import Derived.Lib.RabinKarpLaws
namespace Go.Proofs.YtfopmaiednikhaaDoor.Pure
open Go.RowKit Go.Proofs.YtfopmaiednikhaaDoor.PFnRendezvous Go.Proofs.YtfopmaiednikhaaDoorW.PrintWords Go.Proofs.YtfopmaiednikhaaDoorW.PrintLast Go.Proofs.YtfopmaiednikhaaDoorW.PrintMore Go.Proofs.YtfopmaiednikhaaDoorOwn
set_option linter.unusedVariables false
set_option linter.unusedSimpArgs false

theorem wj {j n : Nat} (h : j < n) (hn : n ≤ 4611686018427387904) : wrap64 ((j : Int) + 1) = ((j + 1 : Nat) : Int) := by
  unfold wrap64; omega
theorem w64 {x : Int} (h0 : -9223372036854775808 ≤ x) (h1 : x ≤ 9223372036854775807) : wrap64 x = x := by
  unfold wrap64; omega
theorem rdj (l : List Int) (j : Nat) : rd l (j : Int) = l.getD j 0 := rfl
theorem getD_at {α : Type} {l : List α} {j : Nat} (h : j < l.length) (z : α) : l.getD j z = l[j] := by
  rw [List.getD_eq_getElem?_getD, List.getElem?_eq_getElem h]; rfl
theorem Ev.law {g : Nat → Option Bool} (h : Ev g true) : ∃ k, g k = some true := h.rounds
theorem l1In_eq (a b c : Int) : spec_l1In.f a b c = some (decide (b ≤ a ∧ a ≤ c)) := by
  unfold spec_l1In.f; by_cases h : b ≤ a <;> simp [h]
theorem within_eq (a b c : Int) : impl_within.f a b c = some (decide (b ≤ a ∧ a ≤ c)) := by
  unfold impl_within.f; by_cases h : b ≤ a <;> simp [h]

--IMPORT Derived.Lib.RabinKarpLaws
/-- Bytes. -/
def Byt (l : List Int) : Prop := ∀ x ∈ l, 0 ≤ x ∧ x ≤ 255
theorem byt_of {l : List Int} (h : ∀ x ∈ l, (Lit.int .u8 x).wf = true) : Byt l := by
  intro x hx
  have := h x hx
  simp only [Lit.wf, IntKind.min, IntKind.max, IntKind.signed, IntKind.bits, Bool.and_eq_true, decide_eq_true_eq] at this
  simp at this; omega
theorem byt_rd {l : List Int} (hl : Byt l) (j : Nat) (hj : j < l.length) : 0 ≤ rd l (j : Int) ∧ rd l (j : Int) ≤ 255 := by
  rw [rdj, getD_at hj]; exact hl _ (List.getElem_mem hj)
theorem and255 (x : Int) : 0 ≤ Go.bits .and .u64 x 255 ∧ Go.bits .and .u64 x 255 ≤ 255 := by
  have e : ∀ z : Nat, z ≤ 255 → IntKind.u64.wrap (z : Int) = (z : Int) := by
    intro z hz; simp only [IntKind.wrap, IntKind.bits, IntKind.signed]; simp; omega
  have hz : ∀ y : Nat, y &&& 255 ≤ 255 := fun y => Nat.and_le_right
  have : ∃ z : Nat, z ≤ 255 ∧ Go.bits .and .u64 x 255 = (z : Int) := by
    refine ⟨_, hz (x % 18446744073709551616).toNat, ?_⟩
    rw [← e _ (hz _)]
    simp only [Go.bits, IntKind.bits]
    rfl
  obtain ⟨z, h1, h2⟩ := this
  rw [h2]; omega
theorem next_ok {l : List Int} (hl : Byt l) (a s : Int) (h0 : 0 ≤ a) (h1 : a ≤ 4611686018427387904) :
    ∃ r s', spec_l1Cur_next.f l a s = some (r, a + 1, s') ∧ 0 ≤ r ∧ r ≤ 255 := by
  unfold spec_l1Cur_next.f
  have e1 : wrap64 (a + 1) = a + 1 := w64 (by omega) (by omega)
  by_cases c : a < (l.length : Int)
  · have hb := byt_rd hl a.toNat (by omega)
    rw [show ((a.toNat : Nat) : Int) = a from by omega] at hb
    rw [if_pos c, if_pos h0, e1, if_pos (by omega), w64 (x := rd l a) (by omega) (by omega)]
    exact ⟨_, _, rfl, hb.1, hb.2⟩
  · rw [if_neg c, e1, if_neg (by omega)]
    refine ⟨_, _, rfl, ?_⟩
    have hb := and255 (IntKind.u64.wrap (IntKind.u64.wrap (IntKind.u64.wrap (s * 6364136223846793005)) + 1442695040888963407) / 1099511627776)
    rw [w64 (by omega) (by omega)]
    exact hb
theorem pick_ok {l : List Int} (hl : Byt l) (a s n : Int) (h0 : 0 ≤ a) (h1 : a ≤ 4611686018427387900) :
    ∃ r a' s', spec_l1Cur_pick.f l a s n = some (r, a', s') ∧ 0 ≤ r ∧ (r < n ∨ n ≤ 1 ∧ r = 0) ∧ a ≤ a' ∧ a' ≤ a + 2 := by
  unfold spec_l1Cur_pick.f
  by_cases c : n ≤ 1
  · rw [if_pos c]; exact ⟨_, _, _, rfl, by omega, .inr ⟨c, rfl⟩, by omega, by omega⟩
  · obtain ⟨r, s1, e1, g0, g1⟩ := next_ok hl a s h0 (by omega)
    rw [if_neg c, e1]
    simp only [Option.bind_some]
    by_cases c2 : n > 200
    · obtain ⟨r2, s2, e2, k0, k1⟩ := next_ok hl (a + 1) s1 (by omega) (by omega)
      rw [if_pos c2, e2]
      simp only [Option.bind_some]
      rw [if_neg (by omega), w64 (x := r * 256) (by omega) (by omega), w64 (by omega) (by omega)]
      exact ⟨_, _, _, rfl, Int.tmod_nonneg _ (by omega), .inl (Int.tmod_lt_of_pos _ (by omega)), by omega, by omega⟩
    · rw [if_neg c2, if_neg (by omega)]
      exact ⟨_, _, _, rfl, Int.tmod_nonneg _ (by omega), .inl (Int.tmod_lt_of_pos _ (by omega)), by omega, by omega⟩
theorem one_ok {l : List Int} (hl : Byt l) (a s n : Int) (h0 : 0 ≤ a) (h1 : a ≤ 4611686018427387900) :
    ∃ b a' s', spec_l1Cur_one.f l a s n = some (b, a', s') ∧ a ≤ a' ∧ a' ≤ a + 2 := by
  unfold spec_l1Cur_one.f
  obtain ⟨r, a', s', e, _, _, g⟩ := pick_ok hl a s n h0 h1
  rw [e]; exact ⟨_, _, _, rfl, g⟩
theorem among_ok {l : List Int} (hl : Byt l) (a s : Int) (x : List Int) (hx : 1 < x.length) (h0 : 0 ≤ a) (h1 : a ≤ 4611686018427387900) :
    ∃ r a' s', spec_l1Cur_among.f l a s x = some (r, a', s') ∧ r ∈ x ∧ a ≤ a' ∧ a' ≤ a + 2 := by
  unfold spec_l1Cur_among.f
  obtain ⟨r, a', s', e, g0, g1, g⟩ := pick_ok hl a s (x.length : Int) h0 h1
  have hr : r.toNat < x.length := by omega
  rw [e]
  simp only [Option.bind_some]
  rw [if_pos g0, if_pos (by omega)]
  refine ⟨_, _, _, rfl, ?_, g⟩
  rw [show r = ((r.toNat : Nat) : Int) from by omega, rdj, getD_at hr]
  exact List.getElem_mem hr

def srvP (l : List Int) : Prop := (∀ x ∈ l, 0 ≤ x ∧ x ≤ 99) ∧ (∀ j, j + 1 < l.length → l.getD j 0 < l.getD (j + 1) 0) ∧ l.length ≤ 12
theorem specSrv_l (l : List Int) (hn : l.length ≤ 1048576) (d : Nat) : ∀ (j : Nat), j + d = l.length → (∀ i, i < j → 0 ≤ l.getD i 0 ∧ l.getD i 0 ≤ 99) → (∀ i, i + 1 < j → l.getD i 0 < l.getD (i + 1) 0) →
    ∃ b, Ev (fun k => spec_l14Servers.l0 k l l (l.length : Int) (j : Int)) b ∧ (b = true ↔ srvP l) := by
  induction d with
  | zero =>
    intro j hj h1 h2
    refine ⟨decide ((l.length : Int) ≤ 12), Ev.step (f := fun _ => some (decide ((l.length : Int) ≤ 12))) (fun k => ?_) (Ev.now _), ?_⟩
    · simp only [spec_l14Servers.l0]; rw [if_neg (by omega)]
    · rw [decide_eq_true_eq]
      refine ⟨fun h => ⟨fun x hx => ?_, fun i hi => h2 i (by omega), by omega⟩, fun h => by have := h.2.2; omega⟩
      obtain ⟨i, hi, rfl⟩ := List.getElem_of_mem hx
      have := h1 i (by omega)
      rw [getD_at hi] at this; exact this
  | succ d ih =>
    intro j hj h1 h2
    have hlt : j < l.length := by omega
    have hstep : ∀ k, spec_l14Servers.l0 (k + 1) l l (l.length : Int) (j : Int) = if 0 ≤ l.getD j 0 ∧ l.getD j 0 ≤ 99 then (if (j : Int) > 0 then (if l.getD (j - 1) 0 ≥ l.getD j 0 then some false else spec_l14Servers.l0 k l l (l.length : Int) ((j + 1 : Nat) : Int)) else spec_l14Servers.l0 k l l (l.length : Int) ((j + 1 : Nat) : Int)) else some false := fun k => by
      simp only [spec_l14Servers.l0]
      rw [if_pos (by omega), if_pos (by omega), if_pos (by omega), l1In_eq, wj (n := l.length) hlt (by omega), rdj]
      simp only [Option.bind_some, decide_eq_true_eq]
      by_cases cB : 0 ≤ l.getD j 0 ∧ l.getD j 0 ≤ 99
      rotate_left
      · rw [if_neg cB, if_neg cB]
      rw [if_pos cB, if_pos cB]
      by_cases c0 : (j : Int) > 0
      · rw [if_pos c0, if_pos c0, w64 (x := (j : Int) - 1) (by omega) (by omega), if_pos (by omega), if_pos (by omega), show (j : Int) - 1 = ((j - 1 : Nat) : Int) by omega, rdj]
      · rw [if_neg c0, if_neg c0]
    have bad : ¬ srvP l → ∀ (h : ∀ k, spec_l14Servers.l0 (k + 1) l l (l.length : Int) (j : Int) = some false), ∃ b, Ev (fun k => spec_l14Servers.l0 k l l (l.length : Int) (j : Int)) b ∧ (b = true ↔ srvP l) := fun hb h => ⟨false, Ev.step (f := fun _ => some false) h (Ev.now _), ⟨fun e => (by cases e), fun e => absurd e hb⟩⟩
    by_cases c1 : 0 ≤ l.getD j 0 ∧ l.getD j 0 ≤ 99
    · by_cases c2 : (j : Int) > 0
      · by_cases c3 : l.getD (j - 1) 0 ≥ l.getD j 0
        · refine bad (fun h => ?_) (fun k => by rw [hstep, if_pos c1, if_pos c2, if_pos c3])
          have := h.2.1 (j - 1) (by omega)
          rw [show j - 1 + 1 = j by omega] at this
          omega
        · obtain ⟨b, e1, e2⟩ := ih (j + 1) (by omega) (fun i hi => by
            by_cases e : i = j
            · rw [e]; exact c1
            · exact h1 i (by omega)) (fun i hi => by
            by_cases e : i + 1 = j
            · obtain rfl : i = j - 1 := by omega
              rw [show j - 1 + 1 = j by omega]; omega
            · exact h2 i (by omega))
          exact ⟨b, Ev.step (fun k => by rw [hstep, if_pos c1, if_pos c2, if_neg c3]) e1, e2⟩
      · obtain ⟨b, e1, e2⟩ := ih (j + 1) (by omega) (fun i hi => by
          by_cases e : i = j
          · rw [e]; exact c1
          · exact h1 i (by omega)) (fun i hi => by omega)
        exact ⟨b, Ev.step (fun k => by rw [hstep, if_pos c1, if_neg c2]) e1, e2⟩
    · refine bad (fun h => ?_) (fun k => by rw [hstep, if_neg c1])
      exact c1 (by rw [getD_at hlt]; exact h.1 _ (List.getElem_mem hlt))
theorem allSrv_iff : ∀ l : List Int, ∃ b, impl_areAll_int__69.f l = some b ∧ (b = true ↔ ∀ x ∈ l, 0 ≤ x ∧ x ≤ 99)
  | [] => ⟨true, rfl, by simp⟩
  | x :: xs => by
    obtain ⟨b, h1, h2⟩ := allSrv_iff xs
    have e : impl_areAll_int__69.f (x :: xs) = if 0 ≤ x ∧ x ≤ 99 then impl_areAll_int__69.f xs else some false := by
      show (impl_isServer.f x).bind _ = _
      unfold impl_isServer.f
      rw [within_eq]
      by_cases c : 0 ≤ x ∧ x ≤ 99
      · rw [decide_eq_true c, if_pos c]; rfl
      · rw [decide_eq_false c, if_neg c]; rfl
    by_cases c : 0 ≤ x ∧ x ≤ 99
    · exact ⟨b, by rw [e, if_pos c, h1], by rw [h2]; simp [c]⟩
    · exact ⟨false, by rw [e, if_neg c], ⟨fun h => (by cases h), fun h => absurd (h x List.mem_cons_self) c⟩⟩
theorem implSrv_l (l : List Int) (hn : l.length ≤ 1048576) (d : Nat) : ∀ (j : Nat), 1 ≤ j → j + d = l.length ∨ (j = 1 ∧ l.length = 0 ∧ d = 0) → (∀ i, i + 1 < j → l.getD i 0 < l.getD (i + 1) 0) →
    ∃ b, Ev (fun k => impl_areServers.l0 k l (j : Int)) b ∧ (b = true ↔ srvP l) := by
  induction d with
  | zero =>
    intro j hj1 hj h2
    have hstep : ∀ k, impl_areServers.l0 (k + 1) l (j : Int) = if (l.length : Int) ≤ 12 then ((impl_areAll_int__69.f l).bind fun t167 => (some t167)) else (some false) := fun k => by
      simp only [impl_areServers.l0]; rw [if_neg (by omega)]
    obtain ⟨b, e1, e2⟩ := allSrv_iff l
    by_cases c : (l.length : Int) ≤ 12
    · refine ⟨b, Ev.step (f := fun _ => some b) (fun k => by rw [hstep, if_pos c, e1]; rfl) (Ev.now _), ?_⟩
      rw [e2]
      exact ⟨fun h => ⟨h, fun i hi => h2 i (by omega), by omega⟩, fun h => h.1⟩
    · exact ⟨false, Ev.step (f := fun _ => some false) (fun k => by rw [hstep, if_neg c]) (Ev.now _), ⟨fun h => (by cases h), fun h => absurd h.2.2 (by omega)⟩⟩
  | succ d ih =>
    intro j hj1 hj h2
    have hlt : j < l.length := by omega
    have hstep : ∀ k, impl_areServers.l0 (k + 1) l (j : Int) = if l.getD j 0 ≤ l.getD (j - 1) 0 then some false else impl_areServers.l0 k l ((j + 1 : Nat) : Int) := fun k => by
      simp only [impl_areServers.l0]
      rw [if_pos (by omega), if_pos (by omega), w64 (x := (j : Int) - 1) (by omega) (by omega), if_pos (by omega), if_pos (by omega), wj (n := l.length) hlt (by omega), show (j : Int) - 1 = ((j - 1 : Nat) : Int) by omega, rdj, rdj]
    by_cases c : l.getD j 0 ≤ l.getD (j - 1) 0
    · refine ⟨false, Ev.step (f := fun _ => some false) (fun k => by rw [hstep, if_pos c]) (Ev.now _), ⟨fun h => (by cases h), fun h => ?_⟩⟩
      have := h.2.1 (j - 1) (by omega)
      rw [show j - 1 + 1 = j by omega] at this
      omega
    · obtain ⟨b, e1, e2⟩ := ih (j + 1) (by omega) (.inl (by omega)) (fun i hi => by
        by_cases e : i + 1 = j
        · obtain rfl : i = j - 1 := by omega
          rw [show j - 1 + 1 = j by omega]; omega
        · exact h2 i (by omega))
      exact ⟨b, Ev.step (fun k => by rw [hstep, if_neg c]) e1, e2⟩
theorem srv_both (l : List Int) (hn : l.length ≤ 1048576) : ∃ b, Ev (fun k => spec_l14Servers.f k l) b ∧ Ev (fun k => impl_areServers.f k l) b ∧ (b = true → srvP l) ∧ (srvP l → b = true) := by
  obtain ⟨b, h1, h2⟩ := specSrv_l l hn l.length 0 (by omega) (fun i hi => by omega) (fun i hi => by omega)
  obtain ⟨b', h3, h4⟩ := implSrv_l l hn (l.length - 1) 1 (Nat.le_refl _) (by omega) (fun i hi => by omega)
  have e : b = b' := Bool.eq_iff_iff.2 (h2.trans h4.symm)
  subst e
  exact ⟨b, h1, h3, h2.1, h2.2⟩
theorem num_all : ∀ n : Nat, n < 100 → spec_l1Num.f 2 (n : Int) = some (numT n) := by decide +kernel
theorem num_ev (x : Int) (h : 0 ≤ x ∧ x < 100) : Ev (fun k => spec_l1Num.f k x) (numT x.toNat) := by
  refine ⟨2, fun k hk => at_rounds (fun k => (spec_l1Num.mono_l k) x) hk ?_⟩
  have := num_all x.toNat (by omega)
  rw [show ((x.toNat : Nat) : Int) = x by omega] at this
  exact this
theorem specHash_l (s : ByteArray) (hs : s.size ≤ 4611686018427387904) (d : Nat) : ∀ (j : Nat) (h : Int), j + d = s.size →
    Ev (fun k => spec_HashOf.l0 k s h (j : Int)) (Go.bits .xor .u32 (((Go.bits .xor .u32 (hashN s d j h) ((hashN s d j h) / 32768)) * 2246822507) % 4294967296) ((((Go.bits .xor .u32 (hashN s d j h) ((hashN s d j h) / 32768)) * 2246822507) % 4294967296) / 8192)) := by
  induction d with
  | zero =>
    intro j h hj
    refine Ev.step (f := fun _ => some _) (fun k => ?_) (Ev.now _)
    simp only [spec_HashOf.l0]; rw [if_neg (by omega)]; rfl
  | succ d ih =>
    intro j h hj
    refine Ev.step (fun k => ?_) (ih (j + 1) _ (by omega))
    simp only [spec_HashOf.l0]
    rw [if_pos (by omega), if_pos (by omega), wj (n := s.size) (by omega) (by omega)]
theorem specHash_ev (s : ByteArray) (hs : s.size ≤ 4611686018427387904) : Ev (fun k => spec_HashOf.f k s) (hashT s) := specHash_l s hs s.size 0 _ (by omega)
theorem keyT_ev {β : Type} (key : ByteArray) (hk : key.size ≤ 1152921504606846976) (x : Int) (h : 0 ≤ x ∧ x < 100) (K : Nat → Int → Option β) (r : β) (hK : Ev (fun k => K k (hashT (keyT key x))) r) :
    Ev (fun k => (spec_l1Num.f k x).bind fun t => if t.size + 1 ≤ 9223372036854775807 then (if (t ++ (⟨#[47]⟩ : ByteArray)).size + key.size ≤ 9223372036854775807 then ((spec_HashOf.f k ((t ++ (⟨#[47]⟩ : ByteArray)) ++ key)).bind fun q => K k q) else none) else none) r := by
  have hd := digits_size x.toNat
  have h1 : (⟨#[47]⟩ : ByteArray).size = 1 := rfl
  refine Ev.bind (num_ev x h) ?_
  simp only [if_pos (show (numT x.toNat).size + 1 ≤ 9223372036854775807 by omega), ByteArray.size_append, if_pos (show (numT x.toNat).size + (⟨#[47]⟩ : ByteArray).size + key.size ≤ 9223372036854775807 by omega)]
  exact Ev.bind (specHash_ev _ (by simp only [ByteArray.size_append]; omega)) hK
theorem ins_l (key : ByteArray) (hk : key.size ≤ 1152921504606846976) (x : Int) (out l : List Int) (hout : ∀ y ∈ out, 0 ≤ y ∧ y < 100) (hlen : out.length ≤ 1000000) (i : Nat) (hi : i < l.length) (hl : l.length ≤ 1048576) (R : List Int) (d : Nat) : ∀ (j : Nat), j + d = out.length →
    Ev (fun k => spec_l14Ranked.l0 k key (out.take j ++ insD (fun x => hashT (keyT key x)) x (out.drop j)) l (l.length : Int) ((i + 1 : Nat) : Int)) R →
    Ev (fun k => spec_l14Ranked.l1 k key out x (hashT (keyT key x)) (j : Int) l (l.length : Int) (i : Int)) R := by
  induction d with
  | zero =>
    intro j hj hR
    obtain rfl : j = out.length := by omega
    rw [List.drop_of_length_le (Nat.le_refl _), List.take_of_length_le (Nat.le_refl _)] at hR
    refine Ev.step (fun k => ?_) hR
    simp only [spec_l14Ranked.l1]
    rw [if_neg (by omega), if_pos (by omega), if_pos (by omega)]
    simp only [Option.bind_some, Int.toNat_natCast, List.take_of_length_le (Nat.le_refl out.length), List.drop_of_length_le (Nat.le_refl out.length), List.nil_append, List.length_nil, Nat.zero_add, List.append_nil, insD, wj (n := l.length) hi (by omega)]
    rw [if_pos (by omega), if_pos (by omega), if_pos (by simp; omega)]
  | succ d ih =>
    intro j hj hR
    have hlt : j < out.length := by omega
    have hy := hout _ (List.getElem_mem hlt)
    have er : rd out (j : Int) = out[j] := by rw [rdj, getD_at hlt]
    refine Ev.step (f := fun k => (spec_l1Num.f k out[j]).bind fun t => if t.size + 1 ≤ 9223372036854775807 then (if (t ++ (⟨#[47]⟩ : ByteArray)).size + key.size ≤ 9223372036854775807 then ((spec_HashOf.f k ((t ++ (⟨#[47]⟩ : ByteArray)) ++ key)).bind fun q => if q ≥ hashT (keyT key x) then spec_l14Ranked.l1 k key out x (hashT (keyT key x)) ((j + 1 : Nat) : Int) l (l.length : Int) (i : Int) else spec_l14Ranked.l0 k key (out.take j ++ x :: out.drop j) l (l.length : Int) ((i + 1 : Nat) : Int)) else none) else none) (fun k => ?_) (keyT_ev key hk out[j] hy _ _ ?_)
    · simp only [spec_l14Ranked.l1]
      rw [if_pos (by omega), if_pos (by omega), er]
      refine congrArg _ (funext fun t => ?_)
      split
      · split
        · refine congrArg _ (funext fun q => ?_)
          split
          · rw [wj (n := out.length) hlt (by omega)]
          · simp only [Option.bind_some, Int.toNat_natCast, List.nil_append, List.length_nil, Nat.zero_add, wj (n := l.length) hi (by omega)]
            rw [if_pos (by omega), if_pos (by simp; omega), if_pos (by simp; omega), if_pos (by simp; omega)]
            simp
        · rfl
      · rfl
    · rw [List.drop_eq_getElem_cons hlt] at hR
      simp only [insD] at hR
      by_cases c : hashT (keyT key out[j]) ≥ hashT (keyT key x)
      · simp only [if_pos c]
        rw [if_pos (show hashT (keyT key x) ≤ hashT (keyT key out[j]) from c)] at hR
        refine ih (j + 1) (by omega) ?_
        rw [List.take_succ_eq_append_getElem hlt, List.append_assoc]
        exact hR
      · simp only [if_neg c]
        rw [if_neg (show ¬ hashT (keyT key x) ≤ hashT (keyT key out[j]) from c), ← List.drop_eq_getElem_cons hlt] at hR
        exact hR
theorem rank_l (key : ByteArray) (hk : key.size ≤ 1152921504606846976) (l : List Int) (hx : ∀ x ∈ l, 0 ≤ x ∧ x < 100) (hl : l.length ≤ 1000) (d : Nat) : ∀ (i : Nat) (out : List Int), i + d = l.length → out.length = i → (∀ y ∈ out, 0 ≤ y ∧ y < 100) →
    Ev (fun k => spec_l14Ranked.l0 k key out l (l.length : Int) (i : Int)) ((l.drop i).foldl (fun out x => insD (fun x => hashT (keyT key x)) x out) out) := by
  induction d with
  | zero =>
    intro i out hi ho hout
    rw [List.drop_of_length_le (by omega)]
    refine Ev.step (f := fun _ => some out) (fun k => ?_) (Ev.now _)
    simp only [spec_l14Ranked.l0]; rw [if_neg (by omega)]
  | succ d ih =>
    intro i out hi ho hout
    have hlt : i < l.length := by omega
    have hxi := hx _ (List.getElem_mem hlt)
    have er : rd l (i : Int) = l[i] := by rw [rdj, getD_at hlt]
    rw [List.drop_eq_getElem_cons hlt, List.foldl_cons]
    refine Ev.step (f := fun k => (spec_l1Num.f k l[i]).bind fun t => if t.size + 1 ≤ 9223372036854775807 then (if (t ++ (⟨#[47]⟩ : ByteArray)).size + key.size ≤ 9223372036854775807 then ((spec_HashOf.f k ((t ++ (⟨#[47]⟩ : ByteArray)) ++ key)).bind fun q => spec_l14Ranked.l1 k key out l[i] q 0 l (l.length : Int) (i : Int)) else none) else none) (fun k => ?_) (keyT_ev key hk l[i] hxi _ _ ?_)
    · simp only [spec_l14Ranked.l0]
      rw [if_pos (by omega), if_pos (by omega), if_pos (by omega), er]
    · refine ins_l key hk l[i] out l hout (by omega) i hlt (by omega) _ out.length 0 (by omega) ?_
      rw [List.take_zero, List.drop_zero, List.nil_append]
      refine ih (i + 1) _ (by omega) (by rw [insD_length]; omega) (fun y hy => ?_)
      rcases (insD_mem _ _ _ _).1 hy with e | e
      · rw [e]; exact hxi
      · exact hout y e
def rankT (key : ByteArray) (l : List Int) : List Int := rankL (fun x => hashT (keyT key x)) l
theorem rank_spec (key : ByteArray) (hk : key.size ≤ 1152921504606846976) (l : List Int) (h : srvP l) : Ev (fun k => spec_l14Ranked.f k l key) (rankT key l) := by
  have := h.2.2
  have hr := rank_l key hk l (fun x hx => by have := h.1 x hx; omega) (by omega) l.length 0 [] (by omega) rfl (by simp)
  rw [List.drop_zero] at hr
  exact hr
theorem rank_impl (key : ByteArray) (hk : key.size ≤ 1152921504606846976) (l : List Int) (h : srvP l) : impl_ranked.f l key = some (rankT key l) := by
  unfold impl_ranked.f
  rw [if_pos ⟨by have := h.2.2; omega, fun x hx => by have := h.1 x hx; omega, hk⟩]
  rfl

theorem sameTexts_l (l : List ByteArray) (hn : l.length ≤ 1048576) (d : Nat) : ∀ (j : Nat), j + d = l.length → Ev (fun k => laws_sameTexts.l0 k l l (l.length : Int) (j : Int)) true := by
  induction d with
  | zero =>
    intro j hj
    refine Ev.step (f := fun _ => some true) (fun k => ?_) (Ev.now _)
    simp only [laws_sameTexts.l0]; rw [if_neg (by omega)]
  | succ d ih =>
    intro j hj
    refine Ev.step (fun k => ?_) (ih (j + 1) (by omega))
    simp only [laws_sameTexts.l0]
    rw [if_pos (by omega), if_pos (by omega), if_pos (by omega), if_pos (by omega), if_pos trivial, wj (n := l.length) (by omega) (by omega)]
theorem sameTexts_ev (l : List ByteArray) (hn : l.length ≤ 1048576) : Ev (fun k => laws_sameTexts.f k l l) true := by
  refine Ev.congr (fun k => ?_) (sameTexts_l l hn l.length 0 (by omega))
  simp only [laws_sameTexts.f]; rw [if_pos trivial]; rfl
theorem sameInts_l (l : List Int) (hn : l.length ≤ 1048576) (d : Nat) : ∀ (j : Nat), j + d = l.length → Ev (fun k => laws_sameInts.l0 k l l (l.length : Int) (j : Int)) true := by
  induction d with
  | zero =>
    intro j hj
    refine Ev.step (f := fun _ => some true) (fun k => ?_) (Ev.now _)
    simp only [laws_sameInts.l0]; rw [if_neg (by omega)]
  | succ d ih =>
    intro j hj
    refine Ev.step (fun k => ?_) (ih (j + 1) (by omega))
    simp only [laws_sameInts.l0]
    rw [if_pos (by omega), if_pos (by omega), if_pos (by omega), if_pos (by omega), if_pos trivial, wj (n := l.length) (by omega) (by omega)]
theorem sameInts_ev (l : List Int) (hn : l.length ≤ 1048576) : Ev (fun k => laws_sameInts.f k l l) true := by
  refine Ev.congr (fun k => ?_) (sameInts_l l hn l.length 0 (by omega))
  simp only [laws_sameInts.f]; rw [if_pos trivial]; rfl
theorem of_ok {l : List Int} (hl : Byt l) (a s : Int) (x : List ByteArray) (hx : 1 < x.length) (h0 : 0 ≤ a) (h1 : a ≤ 4611686018427387900) :
    ∃ r a' s', spec_l1Cur_of.f l a s x = some (r, a', s') ∧ r ∈ x ∧ a ≤ a' ∧ a' ≤ a + 2 := by
  unfold spec_l1Cur_of.f
  obtain ⟨r, a', s', e, g0, g1, g⟩ := pick_ok hl a s (x.length : Int) h0 h1
  have hr : r.toNat < x.length := by omega
  rw [e]
  simp only [Option.bind_some]
  rw [if_pos g0, if_pos (by omega)]
  refine ⟨_, _, _, rfl, ?_, g⟩
  have : rdOf ByteArray.empty x r = x[r.toNat] := getD_at hr _
  rw [this]
  exact List.getElem_mem hr
theorem ringKey_ok {l : List Int} (hl : Byt l) (a s : Int) (h0 : 0 ≤ a) (h1 : a ≤ 4611686018427387000) :
    ∃ key a' s', Ev (fun k => spec_l1Cur_ringKey.f k l a s) (key, a', s') ∧ key.size ≤ 100 ∧ a ≤ a' ∧ a' ≤ a + 4 := by
  unfold spec_l1Cur_ringKey.f
  obtain ⟨r, a1, s1, e1, p1, q1, u1, v1⟩ := pick_ok hl a s 99 h0 (by omega)
  have hd := digits_size r.toNat
  obtain ⟨t, a2, s2, e2, m2, u2, v2⟩ := of_ok hl a1 s1 (([(⟨#[]⟩ : ByteArray), (⟨#[97]⟩ : ByteArray), (⟨#[98]⟩ : ByteArray), (⟨#[104, 116, 116, 112, 58, 47, 47, 104, 47, 97]⟩ : ByteArray), (⟨#[107]⟩ : ByteArray) ++ numT r.toNat] : List ByteArray)) (by simp) (by omega) (by omega)
  refine ⟨t, a2, s2, ?_, ?_, by omega, by omega⟩
  · simp only [e1, Option.bind_some]
    refine Ev.bind (num_ev r (by omega)) ?_
    simp only [if_pos (show 1 + (numT r.toNat).size ≤ 9223372036854775807 by omega), e2, Option.bind_some]
    exact Ev.now _
  · simp only [List.mem_cons, List.not_mem_nil, or_false] at m2
    have h107 : (⟨#[107]⟩ : ByteArray).size = 1 := rfl
    rcases m2 with rfl | rfl | rfl | rfl | rfl
    · decide
    · decide
    · decide
    · decide
    · rw [ByteArray.size_append]; omega
theorem servers_l {l : List Int} (hl : Byt l) (d : Nat) : ∀ (x : List Int) (at_ : Int) (a s : Int), x.length + d ≤ 100 → 0 ≤ a → a ≤ 1000000 + 4 * x.length →
    ∃ r a' s', Ev (fun k => spec_l1Cur_servers.l0 k x at_ (d : Int) l a s) (r, a', s') ∧ r.length ≤ 100 ∧ a ≤ a' ∧ a' ≤ a + 4 * d + 8 := by
  induction d with
  | zero =>
    intro x at_ a s hx h0 h1
    by_cases c : (x.length : Int) > 0
    · obtain ⟨b, a1, s1, e, u1, v1⟩ := one_ok hl a s 30 h0 (by omega)
      by_cases cb : b = true
      · obtain ⟨r2, a2, s2, e2, _, u2, v2⟩ := among_ok hl a1 s1 [(-1), 99, 100] (by simp) (by omega) (by omega)
        refine ⟨x.set 0 r2, a2, s2, Ev.step (f := fun _ => some (x.set 0 r2, a2, s2)) (fun k => ?_) (Ev.now _), by simp; omega, by omega, by omega⟩
        simp only [spec_l1Cur_servers.l0]
        rw [if_neg (by omega), if_pos c, e]
        simp only [Option.bind_some]
        rw [if_pos cb, e2]
        simp only [Option.bind_some]
        rw [if_pos (by omega)]; rfl
      · refine ⟨x, a1, s1, Ev.step (f := fun _ => some (x, a1, s1)) (fun k => ?_) (Ev.now _), by omega, by omega, by omega⟩
        simp only [spec_l1Cur_servers.l0]
        rw [if_neg (by omega), if_pos c, e]
        simp only [Option.bind_some]
        rw [if_neg cb]
    · refine ⟨x, a, s, Ev.step (f := fun _ => some (x, a, s)) (fun k => ?_) (Ev.now _), by omega, by omega, by omega⟩
      simp only [spec_l1Cur_servers.l0]
      rw [if_neg (by omega), if_neg c]
  | succ d ih =>
    intro x at_ a s hx h0 h1
    have ew : wrap64 (((d + 1 : Nat) : Int) - 1) = (d : Int) := by rw [w64 (by omega) (by omega)]; omega
    have el : ∀ y : Int, ((x ++ [y]).length : Int) = x.length + 1 := fun y => by simp
    obtain ⟨r1, a1, s1, e1, _, _, u1, v1⟩ := pick_ok hl a s 3 h0 (by omega)
    obtain ⟨r, a', s', g, g2, g3, g4⟩ := ih (x ++ [wrap64 (at_ + r1)]) (wrap64 (wrap64 (at_ + r1) + 1)) a1 s1 (by simp; omega) (by omega) (by rw [el]; omega)
    refine ⟨r, a', s', Ev.step (fun k => ?_) g, g2, by omega, by omega⟩
    simp only [spec_l1Cur_servers.l0]
    rw [if_pos (by omega), e1]
    simp only [Option.bind_some]
    rw [if_pos (by omega), ew]
theorem servers_ok {l : List Int} (hl : Byt l) (a s : Int) (h0 : 0 ≤ a) (h1 : a ≤ 900000) :
    ∃ r a' s', Ev (fun k => spec_l1Cur_servers.f k l a s) (r, a', s') ∧ r.length ≤ 100 ∧ a ≤ a' ∧ a' ≤ a + 100 := by
  unfold spec_l1Cur_servers.f
  obtain ⟨r1, a1, s1, e1, p1, q1, u1, v1⟩ := pick_ok hl a s 6 h0 (by omega)
  obtain ⟨r, a', s', g, g2, g3, g4⟩ := servers_l hl r1.toNat [] 0 a1 s1 (by simp; omega) (by omega) (by simp; omega)
  rw [show ((r1.toNat : Nat) : Int) = r1 from by omega] at g
  refine ⟨r, a', s', ?_, g2, by omega, by omega⟩
  simp only [e1, Option.bind_some]
  exact g

theorem rankT_pos (key : ByteArray) (l : List Int) (h : ¬ (l.length : Int) = 0) : (0 : Int) < ((rankT key l).length : Int) := by
  unfold rankT; rw [rankL_length]; omega
def movesB (a b : List Int) (key : ByteArray) : Bool := !decide (rd (rankT key a) 0 = rd (rankT key b) 0)
theorem Moved_l (keys : List ByteArray) (hn : keys.length ≤ 60) (hz : ∀ x ∈ keys, x.size ≤ 1152921504606846976) (a b : List Int) (ha : srvP a) (hb : srvP b) (ha0 : ¬ (a.length : Int) = 0) (hb0 : ¬ (b.length : Int) = 0) (d : Nat) : ∀ (j : Nat) (out : List ByteArray), j + d = keys.length → out.length ≤ j →
    Ev (fun k => spec_MovedKeys.l0 k a b out keys (keys.length : Int) (j : Int)) (out ++ (keys.drop j).filter (movesB a b), true) ∧ Ev (fun k => impl_MovedKeys.l0 k a b out keys (keys.length : Int) (j : Int)) (out ++ (keys.drop j).filter (movesB a b), true) := by
  induction d with
  | zero =>
    intro j out hj ho
    rw [List.drop_of_length_le (by omega), List.filter_nil, List.append_nil]
    refine ⟨Ev.step (f := fun _ => some (out, true)) (fun k => ?_) (Ev.now _), Ev.step (f := fun _ => some (out, true)) (fun k => ?_) (Ev.now _)⟩
    · simp only [spec_MovedKeys.l0]; rw [if_neg (by omega)]
    · simp only [impl_MovedKeys.l0]; rw [if_neg (by omega)]
  | succ d ih =>
    intro j out hj ho
    have hlt : j < keys.length := by omega
    have hkz := hz _ (List.getElem_mem hlt)
    have er : rdOf ByteArray.empty keys (j : Int) = keys[j] := getD_at hlt _
    have pa := rankT_pos keys[j] a ha0
    have pb := rankT_pos keys[j] b hb0
    have hS : ∀ k, spec_MovedKeys.l0 (k + 1) a b out keys (keys.length : Int) (j : Int) = (spec_l14Ranked.f k a keys[j]).bind fun t => if 0 < (t.length : Int) then ((spec_l14Ranked.f k b keys[j]).bind fun u => if 0 < (u.length : Int) then (if (rd t 0) = (rd u 0) then spec_MovedKeys.l0 k a b out keys (keys.length : Int) ((j + 1 : Nat) : Int) else (if out.length < 8796093022208 then spec_MovedKeys.l0 k a b (out ++ [keys[j]]) keys (keys.length : Int) ((j + 1 : Nat) : Int) else none)) else none) else none := fun k => by
      simp only [spec_MovedKeys.l0]
      rw [if_pos (by omega), if_pos (by omega), if_pos (by omega), er, wj (n := keys.length) hlt (by omega)]
    have hI : ∀ k, impl_MovedKeys.l0 (k + 1) a b out keys (keys.length : Int) (j : Int) = if (rd (rankT keys[j] a) 0) = (rd (rankT keys[j] b) 0) then impl_MovedKeys.l0 k a b out keys (keys.length : Int) ((j + 1 : Nat) : Int) else impl_MovedKeys.l0 k a b (out ++ [keys[j]]) keys (keys.length : Int) ((j + 1 : Nat) : Int) := fun k => by
      simp only [impl_MovedKeys.l0]
      rw [if_pos (by omega), if_pos (by omega), if_pos (by omega), er, wj (n := keys.length) hlt (by omega), rank_impl _ hkz a ha, rank_impl _ hkz b hb]
      simp only [Option.bind_some, if_pos pa, if_pos pb, if_pos (show out.length < 8796093022208 by omega)]
    have go : ∀ R, Ev (fun k => if (rd (rankT keys[j] a) 0) = (rd (rankT keys[j] b) 0) then spec_MovedKeys.l0 k a b out keys (keys.length : Int) ((j + 1 : Nat) : Int) else spec_MovedKeys.l0 k a b (out ++ [keys[j]]) keys (keys.length : Int) ((j + 1 : Nat) : Int)) R → Ev (fun k => spec_MovedKeys.l0 k a b out keys (keys.length : Int) (j : Int)) R := fun R h => by
      refine Ev.step hS (Ev.bind (rank_spec _ hkz a ha) ?_)
      simp only [if_pos pa]
      refine Ev.bind (rank_spec _ hkz b hb) ?_
      simp only [if_pos pb, if_pos (show out.length < 8796093022208 by omega)]
      exact h
    rw [List.drop_eq_getElem_cons hlt, List.filter_cons]
    by_cases c : (rd (rankT keys[j] a) 0) = (rd (rankT keys[j] b) 0)
    · have hm : movesB a b keys[j] = false := by unfold movesB; rw [decide_eq_true c]; rfl
      obtain ⟨h1, h2⟩ := ih (j + 1) out (by omega) (by omega)
      rw [hm, if_neg (by simp)]
      exact ⟨go _ (Ev.congr (fun k => by rw [if_pos c]) h1), Ev.step (fun k => by rw [hI, if_pos c]) h2⟩
    · have hm : movesB a b keys[j] = true := by unfold movesB; rw [decide_eq_false c]; rfl
      obtain ⟨h1, h2⟩ := ih (j + 1) (out ++ [keys[j]]) (by omega) (by simp; omega)
      rw [List.append_assoc, List.singleton_append] at h1 h2
      rw [hm, if_pos rfl]
      exact ⟨go _ (Ev.congr (fun k => by rw [if_neg c]) h1), Ev.step (fun k => by rw [hI, if_neg c]) h2⟩
def movP (keys : List ByteArray) (a b : List Int) : Prop := srvP a ∧ srvP b ∧ ¬ (a.length : Int) = 0 ∧ ¬ (b.length : Int) = 0 ∧ keys.length ≤ 60
theorem MovedKeys_is (keys : List ByteArray) (a b : List Int) (hz : ∀ x ∈ keys, x.size ≤ 1152921504606846976) (hk : keys.length ≤ 1048576) (ha : a.length ≤ 1048576) (hb : b.length ≤ 1048576) :
    ∃ R : List ByteArray × Bool, Ev (fun k => spec_MovedKeys.f k keys a b) R ∧ Ev (fun k => impl_MovedKeys.f k keys a b) R ∧ R.1.length ≤ 60 ∧ (movP keys a b → R = (keys.filter (movesB a b), true)) ∧ (¬ movP keys a b → R = ([], false)) := by
  obtain ⟨p, p1, p2, p3, p4⟩ := srv_both a ha
  obtain ⟨q, q1, q2, q3, q4⟩ := srv_both b hb
  have out : ¬ movP keys a b → (¬ (p = true ∧ q = true ∧ ¬ (a.length : Int) = 0 ∧ ¬ (b.length : Int) = 0 ∧ ¬ (keys.length : Int) > 60)) := fun h h' => h ⟨p3 h'.1, q3 h'.2.1, h'.2.2.1, h'.2.2.2.1, by omega⟩
  unfold spec_MovedKeys.f impl_MovedKeys.f
  by_cases c : movP keys a b
  · obtain ⟨h1, h2⟩ := Moved_l keys (by have := c.2.2.2.2; omega) hz a b c.1 c.2.1 c.2.2.1 c.2.2.2.1 keys.length 0 [] (by omega) (by simp)
    rw [List.drop_zero, List.nil_append] at h1 h2
    have c6 : ¬ (keys.length : Int) > 60 := by have := c.2.2.2.2; omega
    refine ⟨(keys.filter (movesB a b), true), Ev.bind p1 ?_, ?_, by have := List.length_filter_le (movesB a b) keys; show (keys.filter (movesB a b)).length ≤ 60; omega, fun _ => rfl, fun h => absurd c h⟩
    · simp only [if_pos (p4 c.1)]
      refine Ev.bind q1 ?_
      simp only [if_pos (q4 c.2.1), if_neg c.2.2.1, if_neg c.2.2.2.1, if_neg c6]
      exact h1
    · simp only [if_neg c6]
      refine Ev.bind p2 ?_
      simp only [if_pos (p4 c.1)]
      refine Ev.bind q2 ?_
      simp only [if_pos (q4 c.2.1), if_neg c.2.2.1, if_neg c.2.2.2.1]
      exact h2
  · have hout := out c
    refine ⟨([], false), Ev.bind p1 ?_, ?_, by simp, fun h => absurd h c, fun _ => rfl⟩
    · by_cases cp : p = true
      rotate_left
      · simp only [if_neg cp]; exact Ev.now _
      simp only [if_pos cp]
      refine Ev.bind q1 ?_
      by_cases cq : q = true
      rotate_left
      · simp only [if_neg cq]; exact Ev.now _
      simp only [if_pos cq]
      by_cases ca : (a.length : Int) = 0
      · simp only [if_pos ca]; exact Ev.now _
      by_cases cb : (b.length : Int) = 0
      · simp only [if_neg ca, if_pos cb]; exact Ev.now _
      by_cases c6 : (keys.length : Int) > 60
      · simp only [if_neg ca, if_neg cb, if_pos c6]; exact Ev.now _
      · exact absurd ⟨cp, cq, ca, cb, c6⟩ hout
    · by_cases c6 : (keys.length : Int) > 60
      · simp only [if_pos c6]; exact Ev.now _
      simp only [if_neg c6]
      refine Ev.bind p2 ?_
      by_cases cp : p = true
      rotate_left
      · simp only [if_neg cp]; exact Ev.now _
      simp only [if_pos cp]
      refine Ev.bind q2 ?_
      by_cases cq : q = true
      rotate_left
      · simp only [if_neg cq]; exact Ev.now _
      simp only [if_pos cq]
      by_cases ca : (a.length : Int) = 0
      · simp only [if_pos ca]; exact Ev.now _
      by_cases cb : (b.length : Int) = 0
      · simp only [if_neg ca, if_pos cb]; exact Ev.now _
      · exact absurd ⟨cp, cq, ca, cb, c6⟩ hout

theorem insD_first {α : Type} (f : α → Int) (x : α) : ∀ l : List α, (∀ z ∈ l, f z < f x) → insD f x l = x :: l
  | [], _ => rfl
  | y :: ys, h => by simp only [insD]; rw [if_neg (by have := h y List.mem_cons_self; omega)]
theorem insD_filter {α : Type} (f : α → Int) (p : α → Bool) (x : α) : ∀ l : List α, Desc f l → (insD f x l).filter p = if p x = true then insD f x (l.filter p) else l.filter p
  | [], _ => by simp only [insD, List.filter_cons, List.filter_nil]
  | y :: ys, h => by
    have h1 := List.pairwise_cons.1 h
    simp only [insD]
    by_cases c : f x ≤ f y
    · rw [if_pos c, List.filter_cons, insD_filter f p x ys h1.2, List.filter_cons]
      by_cases cy : p y = true
      · rw [if_pos cy, if_pos cy]
        by_cases cx : p x = true
        · rw [if_pos cx, if_pos cx]; simp only [insD]; rw [if_pos c]
        · rw [if_neg cx, if_neg cx]
      · rw [if_neg cy, if_neg cy]
    · rw [if_neg c, List.filter_cons]
      by_cases cx : p x = true
      · rw [if_pos cx, if_pos cx, insD_first f x _ (fun z hz => by
          have hz' := (List.mem_filter.1 hz).1
          rcases List.mem_cons.1 hz' with e | e
          · rw [e]; omega
          · have := h1.1 z e; omega)]
      · rw [if_neg cx, if_neg cx]
theorem rankL_filter {α : Type} (f : α → Int) (p : α → Bool) : ∀ (l out : List α), Desc f out → (l.foldl (fun out x => insD f x out) out).filter p = (l.filter p).foldl (fun out x => insD f x out) (out.filter p)
  | [], _, _ => rfl
  | x :: l, out, h => by
    rw [List.foldl_cons, rankL_filter f p l _ (insD_desc f x out h), insD_filter f p x out h, List.filter_cons]
    by_cases cx : p x = true
    · rw [if_pos cx, if_pos cx, List.foldl_cons]
    · rw [if_neg cx, if_neg cx]
theorem rankT_filter (key : ByteArray) (p : Int → Bool) (l : List Int) : rankT key (l.filter p) = (rankT key l).filter p := (rankL_filter _ p l [] List.Pairwise.nil).symm
theorem srv_lt {l : List Int} (h : srvP l) (d : Nat) : ∀ i, i + d + 1 < l.length → l.getD i 0 < l.getD (i + d + 1) 0 := by
  induction d with
  | zero => intro i hi; exact h.2.1 i hi
  | succ d ih => intro i hi; have h1 := ih i (by omega); have h2 := h.2.1 (i + d + 1) (by omega); rw [show i + (d + 1) + 1 = i + d + 1 + 1 by omega]; omega
theorem srv_pair {l : List Int} (h : srvP l) : l.Pairwise (· < ·) := by
  rw [List.pairwise_iff_getElem]
  intro i j hi hj hij
  have := srv_lt h (j - i - 1) i (by omega)
  rw [show i + (j - i - 1) + 1 = j by omega, getD_at hi, getD_at hj] at this
  exact this
theorem srv_of_pair {l : List Int} (h1 : ∀ x ∈ l, 0 ≤ x ∧ x ≤ 99) (h2 : l.Pairwise (· < ·)) (h3 : l.length ≤ 12) : srvP l := by
  refine ⟨h1, fun j hj => ?_, h3⟩
  rw [getD_at (show j < l.length by omega), getD_at hj]
  exact List.pairwise_iff_getElem.1 h2 j (j + 1) (by omega) hj (by omega)
theorem srv_erase {l : List Int} (h : srvP l) (g : Nat) (hg : g < l.length) : srvP (l.eraseIdx g) ∧ l.eraseIdx g = l.filter (fun x => !decide (x = l[g])) := by
  have hp := srv_pair h
  have hsub := List.eraseIdx_sublist l g
  refine ⟨srv_of_pair (fun x hx => h.1 x (hsub.subset hx)) (hp.sublist hsub) (Nat.le_trans hsub.length_le h.2.2), ?_⟩
  have go : ∀ v, v = l[g] → l.eraseIdx g = l.filter (fun x => !decide (x = v)) := by
    intro v hv
    have e : l = l.take g ++ v :: l.drop (g + 1) := by rw [hv, ← List.drop_eq_getElem_cons hg, List.take_append_drop]
    have hpe := List.pairwise_append.1 (e ▸ hp : (l.take g ++ v :: l.drop (g + 1)).Pairwise (· < ·))
    have hpc := List.pairwise_cons.1 hpe.2.1
    have f1 : (l.take g).filter (fun x => !decide (x = v)) = l.take g := List.filter_eq_self.2 fun x hx => by
      have := hpe.2.2 x hx v List.mem_cons_self
      simp; omega
    have f2 : (l.drop (g + 1)).filter (fun x => !decide (x = v)) = l.drop (g + 1) := List.filter_eq_self.2 fun x hx => by
      have := hpc.1 x hx
      simp; omega
    rw [List.eraseIdx_eq_take_drop_succ]
    conv => rhs; rw [e]
    rw [List.filter_append, f1, List.filter_cons, if_neg (by simp), f2]
  exact go _ rfl
theorem number_l {l : List Int} (hl : Byt l) (hn : l.length ≤ 1048576) (d : Nat) : ∀ (j : Nat) (n : Int), j + d = l.length → 0 ≤ n → n < 1000003 →
    ∃ r, Ev (fun k => laws_numberOf.l0 k n l (l.length : Int) (j : Int)) r ∧ 0 ≤ r ∧ r < 1000003 := by
  induction d with
  | zero =>
    intro j n hj h0 h1
    refine ⟨n, Ev.step (f := fun _ => some n) (fun k => ?_) (Ev.now _), h0, h1⟩
    simp only [laws_numberOf.l0]; rw [if_neg (by omega)]
  | succ d ih =>
    intro j n hj h0 h1
    have hlt : j < l.length := by omega
    have hb := byt_rd hl j hlt
    obtain ⟨r, g, g0, g1⟩ := ih (j + 1) (Int.tmod (31 * n + rd l (j : Int)) 1000003) (by omega) (Int.tmod_nonneg _ (by omega)) (Int.tmod_lt_of_pos _ (by omega))
    refine ⟨r, Ev.step (fun k => ?_) g, g0, g1⟩
    simp only [laws_numberOf.l0]
    rw [if_pos (by omega), if_pos (by omega), if_pos (by omega), w64 (x := 31 * n) (by omega) (by omega), w64 (x := rd l (j : Int)) (by omega) (by omega), w64 (by omega) (by omega), wj (n := l.length) hlt (by omega)]
theorem implHash_ev (s : ByteArray) (hs : s.size ≤ 4611686018427387904) : Ev (fun k => impl_HashOf.f k s) (hashT s) :=
  ⟨s.size + 1, fun k hk => at_rounds (fun k => impl_HashOf.mono s k) hk (hashT_is s hs)⟩
theorem drawMoved_l {l : List Int} (hl : Byt l) (d : Nat) : ∀ (x : List ByteArray) (a s : Int), x.length + d ≤ 100 → (∀ y ∈ x, y.size ≤ 100) → 0 ≤ a → a ≤ 1000 + 4 * x.length →
    ∃ ks p q, Ev (fun k => spec_DrawMovedKeys.l0 k x (d : Int) l a s) (ks, p, q) ∧ ks.length ≤ 100 ∧ (∀ y ∈ ks, y.size ≤ 100) ∧ p.length ≤ 100 ∧ q.length ≤ 100 := by
  induction d with
  | zero =>
    intro x a s hx hy h0 h1
    obtain ⟨r, a1, s1, g1, l1, u1, v1⟩ := servers_ok hl a s h0 (by omega)
    have other : ∀ a2 s2, 0 ≤ a2 → a2 ≤ 5000 → ∃ q, Ev (fun k => (spec_l1Cur_one.f l a2 s2 3).bind fun bt297 => (if bt297.1 = true then ((spec_l1Cur_servers.f k l bt297.2.1 bt297.2.2).bind fun bt300 => (some (x, r, bt300.1))) else (some (x, r, r)))) (x, r, q) ∧ q.length ≤ 100 := by
      intro a2 s2 h2 h3
      obtain ⟨b, a3, s3, e3, u3, v3⟩ := one_ok hl a2 s2 3 h2 (by omega)
      simp only [e3, Option.bind_some]
      by_cases cb : b = true
      · obtain ⟨q, a4, s4, g4, l4, _⟩ := servers_ok hl a3 s3 (by omega) (by omega)
        refine ⟨q, ?_, l4⟩
        simp only [if_pos cb]
        exact Ev.bind g4 (Ev.now _)
      · refine ⟨r, ?_, l1⟩
        simp only [if_neg cb]; exact Ev.now _
    have hstep : ∀ k, spec_DrawMovedKeys.l0 (k + 1) x ((0 : Nat) : Int) l a s = _ := fun k => by simp only [spec_DrawMovedKeys.l0]; rw [if_neg (by omega)]
    by_cases c1 : (r.length : Int) > 1
    · obtain ⟨b, a2, s2, e2, u2, v2⟩ := one_ok hl a1 s1 2 (by omega) (by omega)
      by_cases cb : b = true
      · refine ⟨x, r, r.take (r.length - 1), Ev.step hstep (Ev.bind g1 ?_), by omega, hy, l1, by simp; omega⟩
        have ew : wrap64 ((r.length : Int) - 1) = ((r.length - 1 : Nat) : Int) := by rw [w64 (by omega) (by omega)]; omega
        simp only [if_pos c1, e2, Option.bind_some, if_pos cb, ew, if_pos (show (0 : Int) ≤ ((r.length - 1 : Nat) : Int) by omega), if_pos (show ((r.length - 1 : Nat) : Int) ≤ (r.length : Int) by omega), Int.toNat_natCast, List.length_nil, Nat.zero_add, List.nil_append, if_pos (show (r.take (r.length - 1)).length < 17592186044416 by simp; omega)]
        exact Ev.now _
      · obtain ⟨q, g3, l3⟩ := other a2 s2 (by omega) (by omega)
        refine ⟨x, r, q, Ev.step hstep (Ev.bind g1 ?_), by omega, hy, l1, l3⟩
        simp only [if_pos c1, e2, Option.bind_some, if_neg cb]
        exact g3
    · obtain ⟨q, g3, l3⟩ := other a1 s1 (by omega) (by omega)
      refine ⟨x, r, q, Ev.step hstep (Ev.bind g1 ?_), by omega, hy, l1, l3⟩
      simp only [if_neg c1]
      exact g3
  | succ d ih =>
    intro x a s hx hy h0 h1
    have ew : wrap64 (((d + 1 : Nat) : Int) - 1) = (d : Int) := by rw [w64 (by omega) (by omega)]; omega
    have el : ∀ y : ByteArray, ((x ++ [y]).length : Int) = x.length + 1 := fun y => by simp
    obtain ⟨key, a1, s1, g1, z1, u1, v1⟩ := ringKey_ok hl a s h0 (by omega)
    obtain ⟨ks, p, q, g, g2⟩ := ih (x ++ [key]) a1 s1 (by simp; omega) (fun y hy' => by
      rcases List.mem_append.1 hy' with e | e
      · exact hy y e
      · rw [List.mem_singleton.1 e]; exact z1) (by omega) (by rw [el]; omega)
    refine ⟨ks, p, q, Ev.step (f := fun k => (spec_l1Cur_ringKey.f k l a s).bind fun bt273 => if x.length < 8796093022208 then spec_DrawMovedKeys.l0 k (x ++ [bt273.1]) (d : Int) l bt273.2.1 bt273.2.2 else none) (fun k => ?_) (Ev.bind g1 ?_), g2⟩
    · simp only [spec_DrawMovedKeys.l0]; rw [if_pos (by omega), ew]
    · simp only [if_pos (show x.length < 8796093022208 by omega)]; exact g
theorem drawMoved_ok {l : List Int} (hl : Byt l) : ∃ ks p q, Ev (fun k => spec_DrawMovedKeys.f k l) (ks, p, q) ∧ ks.length ≤ 100 ∧ (∀ y ∈ ks, y.size ≤ 100) ∧ p.length ≤ 100 ∧ q.length ≤ 100 := by
  unfold spec_DrawMovedKeys.f
  obtain ⟨r1, a1, s1, e1, p1, q1, u1, v1⟩ := pick_ok hl 0 0 8 (by omega) (by omega)
  obtain ⟨ks, p, q, g, g2⟩ := drawMoved_l hl r1.toNat [] a1 s1 (by simp; omega) (by simp) (by omega) (by simp; omega)
  rw [show ((r1.toNat : Nat) : Int) = r1 from by omega] at g
  refine ⟨ks, p, q, ?_, g2⟩
  simp only [e1, Option.bind_some]
  exact g
theorem movP_sym {keys : List ByteArray} {a b : List Int} : movP keys a b → movP keys b a := fun h => ⟨h.2.1, h.1, h.2.2.2.1, h.2.2.1, h.2.2.2.2⟩
theorem movesB_sym (a b : List Int) : movesB a b = movesB b a := funext fun key => by
  unfold movesB
  rw [Bool.not_eq_eq_eq_not, Bool.not_not, decide_eq_decide]
  exact ⟨Eq.symm, Eq.symm⟩
theorem J2_ev {m : List Int} (hm : Byt m) : Ev (fun k => laws_FnRendezvous.j2 k m) true := by
  obtain ⟨ks, p, q, g, l1, z1, l2, l3⟩ := drawMoved_ok hm
  have hz : ∀ y ∈ ks, y.size ≤ 1152921504606846976 := fun y hy => by have := z1 y hy; omega
  obtain ⟨R, h1, h2, h3, h4, h5⟩ := MovedKeys_is ks p q hz (by omega) (by omega) (by omega)
  obtain ⟨R', _, k2, _, k4, k5⟩ := MovedKeys_is ks q p hz (by omega) (by omega) (by omega)
  have e : R' = R := by
    by_cases c : movP ks p q
    · rw [h4 c, k4 (movP_sym c), movesB_sym]
    · rw [h5 c, k5 (fun h => c (movP_sym h))]
  subst e
  refine Ev.step (fun k => by simp only [laws_FnRendezvous.j2] <;> rfl) (Ev.bind g (Ev.bind h2 (Ev.bind h1 (Ev.bind k2 ?_))))
  simp only [beq_self_eq_true, if_true]
  refine Ev.bind (sameTexts_ev _ (by omega)) ?_
  simp only [if_true]
  exact Ev.bind (sameTexts_ev _ (by omega)) (Ev.now _)
theorem RankedOf_is (l : List Int) (key : ByteArray) (hl : l.length ≤ 1048576) (hk : key.size ≤ 1152921504606846976) :
    (srvP l ∧ Ev (fun k => spec_RankedOf.f k l key) (rankT key l, true) ∧ Ev (fun k => impl_RankedOf.f k l key) (rankT key l, true)) ∨ (¬ srvP l ∧ Ev (fun k => spec_RankedOf.f k l key) ([], false) ∧ Ev (fun k => impl_RankedOf.f k l key) ([], false)) := by
  obtain ⟨b, h1, h2, h3, h4⟩ := srv_both l hl
  unfold spec_RankedOf.f impl_RankedOf.f
  by_cases c : b = true
  · refine .inl ⟨h3 c, Ev.bind h1 ?_, Ev.bind h2 ?_⟩
    · simp only [if_pos c]; exact Ev.bind (rank_spec key hk l (h3 c)) (Ev.now _)
    · simp only [if_pos c, rank_impl key hk l (h3 c), Option.bind_some]; exact Ev.now _
  · refine .inr ⟨fun h => c (h4 h), Ev.bind h1 ?_, Ev.bind h2 ?_⟩
    · simp only [if_neg c]; exact Ev.now _
    · simp only [if_neg c]; exact Ev.now _
theorem RendezvousOf_is (l : List Int) (key : ByteArray) (hl : l.length ≤ 1048576) (hk : key.size ≤ 1152921504606846976) :
    ∃ c b, Ev (fun k => spec_RendezvousOf.f k l key) (c, b) ∧ Ev (fun k => impl_RendezvousOf.f k l key) (c, b) ∧ (srvP l → ¬ (l.length : Int) = 0 → b = true ∧ c = rd (rankT key l) 0) := by
  obtain ⟨b, h1, h2, h3, h4⟩ := srv_both l hl
  unfold spec_RendezvousOf.f impl_RendezvousOf.f
  by_cases c : b = true
  · by_cases c0 : (l.length : Int) = 0
    · refine ⟨0, false, Ev.bind h1 ?_, Ev.bind h2 ?_, fun _ h => absurd c0 h⟩
      · simp only [if_pos c, if_pos c0]; exact Ev.now _
      · simp only [if_pos c, if_pos c0]; exact Ev.now _
    · refine ⟨rd (rankT key l) 0, true, Ev.bind h1 ?_, Ev.bind h2 ?_, fun _ _ => ⟨rfl, rfl⟩⟩
      · simp only [if_pos c, if_neg c0]
        refine Ev.bind (rank_spec key hk l (h3 c)) ?_
        simp only [if_pos (rankT_pos key l c0)]; exact Ev.now _
      · simp only [if_pos c, if_neg c0, rank_impl key hk l (h3 c), Option.bind_some, if_pos (rankT_pos key l c0)]; exact Ev.now _
  · refine ⟨0, false, Ev.bind h1 ?_, Ev.bind h2 ?_, fun h _ => absurd (h4 h) c⟩
    · simp only [if_neg c]; exact Ev.now _
    · simp only [if_neg c]; exact Ev.now _
def notG (x g : Int) : Bool := !decide (x = g)
theorem Loop_l {mc : List Int} (hm : Byt mc) (l : List Int) (hs : srvP l) (hl1 : (l.length : Int) > 1) (key : ByteArray) (hk : key.size ≤ 100) (g : Nat) (hg : g < l.length) (d : Nat) : ∀ (j : Nat), j + d = (rankT key l).length →
    Ev (fun k => laws_FnRendezvous.l0 k mc l key (rankT key l) (rd (rankT key l) 0) true (g : Int) (l.eraseIdx g) (rankT key (l.eraseIdx g)) true ((((rankT key l).take j).filter (fun x => notG x l[g])).length : Int) (rankT key l) ((rankT key l).length : Int) (j : Int)) true := by
  have hlen : (rankT key l).length = l.length := rankL_length _ _
  have hl12 := hs.2.2
  obtain ⟨hse, hef⟩ := srv_erase hs g hg
  have hfm : rankT key (l.eraseIdx g) = (rankT key l).filter (fun x => notG x l[g]) := by
    conv => lhs; rw [hef]
    exact rankT_filter key _ l
  have herl : (l.eraseIdx g).length + 1 = l.length := by rw [List.length_eraseIdx_of_lt hg]; omega
  have hml : (rankT key (l.eraseIdx g)).length = (l.eraseIdx g).length := rankL_length _ _
  have egl : rd l (g : Int) = l[g] := by rw [rdj, getD_at hg]
  have h0L : 0 < (rankT key l).length := by omega
  have e0 : rd (rankT key l) 0 = (rankT key l)[0] := by rw [show (0 : Int) = ((0 : Nat) : Int) from rfl, rdj, getD_at h0L]
  induction d with
  | zero =>
    intro j hj
    obtain rfl : j = (rankT key l).length := by omega
    rw [List.take_of_length_le (Nat.le_refl _), ← hfm]
    obtain ⟨R, _, h2, h3, h4, _⟩ := MovedKeys_is [key] l (l.eraseIdx g) (fun x hx => by rw [List.mem_singleton.1 hx]; omega) (by simp) (by omega) (by omega)
    have hR := h4 ⟨hs, hse, by omega, by omega, by simp⟩
    subst hR
    have hh : (((([key] : List ByteArray).filter (movesB l (l.eraseIdx g))).length : Int) == 1) = (rd (rankT key l) 0 == rd l (g : Int)) := by
      have hm0 : 0 < (rankT key (l.eraseIdx g)).length := by omega
      have em0 : rd (rankT key (l.eraseIdx g)) 0 = (rankT key (l.eraseIdx g))[0] := by rw [show (0 : Int) = ((0 : Nat) : Int) from rfl, rdj, getD_at hm0]
      by_cases c : (rankT key l)[0] = l[g]
      · have hmem : (rankT key (l.eraseIdx g))[0] ∈ (rankT key l).filter (fun x => notG x l[g]) := by rw [← hfm]; exact List.getElem_mem hm0
        have hne := (List.mem_filter.1 hmem).2
        have hmv : movesB l (l.eraseIdx g) key = true := by
          unfold movesB
          rw [e0, em0, c, decide_eq_false (fun e => by rw [← e] at hne; simp [notG] at hne)]; rfl
        rw [List.filter_cons, if_pos hmv, e0, egl, c, beq_self_eq_true]
        rfl
      · have hmv : movesB l (l.eraseIdx g) key = false := by
          unfold movesB
          have : (rankT key (l.eraseIdx g))[0] = (rankT key l)[0] := by
            have hc : rankT key l = (rankT key l)[0] :: (rankT key l).drop 1 := by
              have := List.drop_eq_getElem_cons h0L
              rw [List.drop_zero] at this; exact this
            have h5 : rankT key (l.eraseIdx g) = (rankT key l)[0] :: ((rankT key l).drop 1).filter (fun x => notG x l[g]) := by
              rw [hfm]
              conv => lhs; rw [hc]
              rw [List.filter_cons, if_pos (by simp [notG, c])]
            have h6 : (rankT key (l.eraseIdx g))[0]? = some (rankT key l)[0] := by rw [h5]; rfl
            rw [List.getElem?_eq_getElem hm0] at h6
            exact Option.some.inj h6
          rw [e0, em0, this, decide_eq_true rfl]; rfl
        rw [List.filter_cons, if_neg (by rw [hmv]; simp), e0, egl, beq_eq_false_iff_ne.2 c]
        rfl
    refine Ev.step (f := fun k => (impl_MovedKeys.f k [key] l (l.eraseIdx g)).bind fun bt359 => (if bt359.2 = true then (if (((bt359.1.length : Int) == 1) != ((rd (rankT key l) 0) == (rd l (g : Int)))) = true then (none) else (laws_FnRendezvous.j2 k mc)) else (none))) (fun k => ?_) (Ev.bind h2 ?_)
    · simp only [laws_FnRendezvous.l0]
      rw [if_neg (by omega)]
      refine congrArg _ (funext fun bt => ?_)
      rw [if_pos trivial, if_pos (by omega), if_pos trivial, if_pos trivial, if_pos trivial, if_pos (show (0 : Int) ≤ (g : Int) by omega), if_pos (show (g : Int) < (l.length : Int) by omega)]
    · simp only [hh, if_true, bne_self_eq_false, Bool.false_eq_true, if_false]
      exact J2_ev hm
  | succ d ih =>
    intro j hj
    have hlt : j < (rankT key l).length := by omega
    have er : rd (rankT key l) (j : Int) = (rankT key l)[j] := by rw [rdj, getD_at hlt]
    have ih' := ih (j + 1) (by omega)
    rw [List.take_succ_eq_append_getElem hlt, List.filter_append] at ih'
    by_cases c : (rankT key l)[j] = l[g]
    · refine Ev.step (fun k => ?_) ih'
      simp only [laws_FnRendezvous.l0]
      rw [if_pos (by omega), if_pos (by omega), if_pos (by omega), if_pos (by omega), if_pos (by omega), er, egl, if_pos c, wj (n := (rankT key l).length) hlt (by omega), List.filter_cons, if_neg (by simp [notG, c]), List.filter_nil, List.append_nil]
    · have hp : notG (rankT key l)[j] l[g] = true := by simp [notG, c]
      have hsplit : rankT key (l.eraseIdx g) = ((rankT key l).take j).filter (fun x => notG x l[g]) ++ (rankT key l)[j] :: ((rankT key l).drop (j + 1)).filter (fun x => notG x l[g]) := by
        rw [hfm]
        conv => lhs; rw [← List.take_append_drop j (rankT key l), List.drop_eq_getElem_cons hlt]
        rw [List.filter_append, List.filter_cons, if_pos hp]
      have hlenA := congrArg List.length hsplit
      rw [List.length_append, List.length_cons] at hlenA
      have em : rd (rankT key (l.eraseIdx g)) ((((rankT key l).take j).filter (fun x => notG x l[g])).length : Int) = (rankT key l)[j] := by
        rw [rdj, hsplit, List.getD_eq_getElem?_getD, List.getElem?_append_right (Nat.le_refl _), Nat.sub_self]
        rfl
      rw [List.filter_cons, if_pos hp, List.filter_nil, List.length_append, List.length_singleton] at ih'
      refine Ev.step (fun k => ?_) ih'
      simp only [laws_FnRendezvous.l0]
      rw [if_pos (by omega), if_pos (by omega), if_pos (by omega), if_pos (by omega), if_pos (by omega), er, egl, if_neg c, if_neg (by omega), if_pos (by omega), if_pos (by omega), em, if_pos rfl, wj (n := (rankT key l).length) hlt (by omega), wj (n := (rankT key (l.eraseIdx g)).length) (by omega) (by omega)]
theorem J0_false {m : List Int} (hm : Byt m) (l : List Int) (key : ByteArray) (rk : List Int) (t : Int) (b : Bool) : Ev (fun k => laws_FnRendezvous.j0 k m l key rk false t b false) true := by
  obtain ⟨K, hK⟩ := J2_ev hm
  refine Ev.step (f := fun k => laws_FnRendezvous.j2 (k + 1) m) (fun k => ?_) ⟨K, fun k hk => hK (k + 1) (by omega)⟩
  simp only [laws_FnRendezvous.j0, laws_FnRendezvous.j2]
  rw [if_neg Bool.false_ne_true, if_neg Bool.false_ne_true]
theorem J0_small {m : List Int} (hm : Byt m) (l : List Int) (key : ByteArray) (rk : List Int) (t : Int) (b : Bool) (c1 : ¬ (l.length : Int) > 1) : Ev (fun k => laws_FnRendezvous.j0 k m l key rk true t b false) true := by
  refine Ev.step (fun k => ?_) (J2_ev hm)
  simp only [laws_FnRendezvous.j0]
  rw [if_neg Bool.false_ne_true, if_pos trivial, if_neg c1]
theorem numberOf_ev {m : List Int} (hm : Byt m) (hn : m.length ≤ 1048576) : ∃ n, Ev (fun k => laws_numberOf.f k m) n ∧ 0 ≤ n ∧ n < 1000003 := number_l hm hn m.length 0 0 (by omega) (by omega) (by omega)
theorem J0_big {m : List Int} (hm : Byt m) (hn : m.length ≤ 1048576) (l : List Int) (hs : srvP l) (c1 : (l.length : Int) > 1) (key : ByteArray) (hk : key.size ≤ 100) : Ev (fun k => laws_FnRendezvous.j0 k m l key (rankT key l) true (rd (rankT key l) 0) true false) true := by
  obtain ⟨n, n1, n2, n3⟩ := numberOf_ev hm hn
  have hl12 := hs.2.2
  have hlp : (0 : Int) < (l.length : Int) := by omega
  have g0 : 0 ≤ Int.tmod n (l.length : Int) := Int.tmod_nonneg _ n2
  have g1' : Int.tmod n (l.length : Int) < (l.length : Int) := Int.tmod_lt_of_pos _ hlp
  obtain ⟨g, hg⟩ : ∃ g : Nat, Int.tmod n (l.length : Int) = (g : Int) := ⟨(Int.tmod n (l.length : Int)).toNat, by omega⟩
  have hgl : g < l.length := by omega
  have hlp2 := Loop_l hm l hs c1 key hk g hgl (rankT key l).length 0 (by omega)
  rw [List.take_zero, List.filter_nil, List.length_nil] at hlp2
  obtain ⟨hse, _⟩ := srv_erase hs g hgl
  have hle := List.length_eraseIdx_le l g
  have hrk : Ev (fun k => impl_RankedOf.f k (l.eraseIdx g) key) (rankT key (l.eraseIdx g), true) := by
    rcases RankedOf_is (l.eraseIdx g) key (by omega) (by omega) with ⟨_, _, h⟩ | ⟨h, _⟩
    · exact h
    · exact absurd hse h
  have hstep : ∀ k, laws_FnRendezvous.j0 (k + 1) m l key (rankT key l) true (rd (rankT key l) 0) true false = _ := fun k => by
    simp only [laws_FnRendezvous.j0]
    rw [if_neg Bool.false_ne_true, if_pos trivial, if_pos c1]
  refine Ev.step hstep (Ev.bind n1 ?_)
  have ew2 : wrap64 ((g : Int) + 1) = ((g + 1 : Nat) : Int) := by rw [w64 (by omega) (by omega)]; omega
  have e1 : (l.take g).length < 17592186044416 := by rw [List.length_take]; omega
  have e2 : (l.take g).length + (l.drop (g + 1)).length < 17592186044416 := by rw [List.length_take, List.length_drop]; omega
  simp only [if_neg (show ¬ (l.length : Int) = 0 by omega), hg, Option.bind_some, ew2, Int.toNat_natCast, if_pos (show (0 : Int) ≤ (g : Int) by omega), if_pos (show (g : Int) ≤ (l.length : Int) by omega), List.nil_append, List.length_nil, Nat.zero_add, if_pos e1, if_pos (show (0 : Int) ≤ ((g + 1 : Nat) : Int) by omega), if_pos (show ((g + 1 : Nat) : Int) ≤ (l.length : Int) by omega), if_pos e2]
  rw [← List.eraseIdx_eq_take_drop_succ]
  exact Ev.bind hrk hlp2
theorem FnRendezvous : laws_FnRendezvous.Pure := by
  intro c m hc0 hc1 hc2 hm0 hm1 hm2
  have hc := byt_of hc2
  have hm := byt_of hm2
  refine Ev.law ?_
  unfold laws_FnRendezvous.f
  have ew : wrap64 ((c.length : Int) + (m.length : Int)) = (c.length : Int) + (m.length : Int) := w64 (by omega) (by omega)
  rw [ew]
  by_cases cl : (c.length : Int) + (m.length : Int) > 1048576
  · exact Ev.congr (fun k => by rw [if_pos cl]) (Ev.now _)
  simp only [if_neg cl]
  obtain ⟨l, a1, s1, g1, l1, u1, v1⟩ := servers_ok hc 0 0 (by omega) (by omega)
  obtain ⟨key, a2, s2, g2, z2, u2, v2⟩ := ringKey_ok hc a1 s1 (by omega) (by omega)
  have hdraw : Ev (fun k => spec_DrawRankedOf.f k c) (l, key) := by
    unfold spec_DrawRankedOf.f spec_DrawRendezvousOf.f
    exact Ev.bind (Ev.bind g1 (Ev.bind g2 (Ev.now _))) (Ev.now _)
  obtain ⟨t, b, r1, r2, r3⟩ := RendezvousOf_is l key (by omega) (by omega)
  have hh1 := implHash_ev key (by omega)
  have hh2 := specHash_ev key (by omega)
  have hm1' : m.length ≤ 1048576 := by omega
  refine Ev.bind hdraw ?_
  rcases RankedOf_is l key (by omega) (by omega) with ⟨hs, k1, k2⟩ | ⟨hs, k1, k2⟩
  · refine Ev.bind k2 (Ev.bind k1 (Ev.bind r2 (Ev.bind r1 ?_)))
    simp only [bne_self_eq_false, Bool.false_eq_true, if_false]
    refine Ev.bind (sameInts_ev _ (by unfold rankT; rw [rankL_length]; omega)) ?_
    simp only [if_true]
    refine Ev.bind hh1 (Ev.bind hh2 ?_)
    simp only [bne_self_eq_false]
    by_cases c1 : (l.length : Int) > 1
    · obtain ⟨hb, ht⟩ := r3 hs (by omega)
      subst hb ht
      exact J0_big hm hm1' l hs c1 key z2
    · exact J0_small hm _ _ _ _ _ c1
  · refine Ev.bind k2 (Ev.bind k1 (Ev.bind r2 (Ev.bind r1 ?_)))
    simp only [bne_self_eq_false, Bool.false_eq_true, if_false]
    refine Ev.bind (sameInts_ev _ (by simp)) ?_
    simp only [if_true]
    refine Ev.bind hh1 (Ev.bind hh2 ?_)
    simp only [bne_self_eq_false]
    exact J0_false hm _ _ _ _ _

end Go.Proofs.YtfopmaiednikhaaDoor.Pure
