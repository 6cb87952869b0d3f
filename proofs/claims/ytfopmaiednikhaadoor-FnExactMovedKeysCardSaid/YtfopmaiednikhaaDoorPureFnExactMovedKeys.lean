/- MovedKeys answers as the reference does, writes into no argument and owns what it hands back: the pure part. -/
import Derived.Test.YtfopmaiednikhaaDoorPFnExactMovedKeysx7
namespace Go.Proofs.YtfopmaiednikhaaDoor.Pure
open Go.RowKit Go.Proofs.YtfopmaiednikhaaDoor.PFnExactMovedKeys Go.Proofs.YtfopmaiednikhaaDoorW.PrintWords Go.Proofs.YtfopmaiednikhaaDoorW.PrintLast Go.Proofs.YtfopmaiednikhaaDoorW.PrintMore Go.Proofs.YtfopmaiednikhaaDoorOwn
set_option linter.unusedVariables false
set_option linter.unusedSimpArgs false

theorem wj {j n : Nat} (h : j < n) (hn : n ≤ 4611686018427387904) : wrap64 ((j : Int) + 1) = ((j + 1 : Nat) : Int) := by
  unfold wrap64; omega
theorem w64 {x : Int} (h0 : -9223372036854775808 ≤ x) (h1 : x ≤ 9223372036854775807) : wrap64 x = x := by
  unfold wrap64; omega
theorem rdj (l : List Int) (j : Nat) : rd l (j : Int) = l.getD j 0 := rfl
theorem getD_at {α : Type} {l : List α} {j : Nat} (h : j < l.length) (z : α) : l.getD j z = l[j] := by
  rw [List.getD_eq_getElem?_getD, List.getElem?_eq_getElem h]; rfl
theorem Ev.law {g : Nat → Option Bool} (h : Ev g true) : ∃ k, g k = some true := h.rounds
theorem l1In_eq (a b c : Int) : spec_l1In.f a b c = some (decide (b ≤ a ∧ a ≤ c)) := by
  unfold spec_l1In.f; by_cases h : b ≤ a <;> simp [h]
theorem within_eq (a b c : Int) : impl_within.f a b c = some (decide (b ≤ a ∧ a ≤ c)) := by
  unfold impl_within.f; by_cases h : b ≤ a <;> simp [h]

theorem toIntS_l (l : List Int) (hn : l.length ≤ 1048576) (d : Nat) : ∀ (j : Nat) (x3 : List Int), j + d = l.length → x3.length = l.length → (∀ i, i < j → x3[i]? = l[i]?) →
    Ev (fun k => laws_toIntS.l0 k l x3 (j : Int)) l := by
  induction d with
  | zero =>
    intro j x3 hj h3 he
    refine Ev.step (f := fun _ => some l) (fun k => ?_) (Ev.now _)
    simp only [laws_toIntS.l0]
    rw [if_neg (by omega)]
    refine congrArg some (List.ext_getElem? fun i => ?_)
    by_cases hi : i < j
    · exact he i hi
    · rw [List.getElem?_eq_none (by omega), List.getElem?_eq_none (by omega)]
  | succ d ih =>
    intro j x3 hj h3 he
    refine Ev.step (fun k => ?_) (ih (j + 1) (x3.set j (rd l j)) (by omega) (by simpa using h3) (fun i hi => ?_))
    · simp only [laws_toIntS.l0]
      rw [if_pos (by omega), if_pos (by omega), if_pos (by omega), wj (n := l.length) (by omega) (by omega)]
      rfl
    · rw [List.getElem?_set]
      split
      · rename_i h
        subst h
        rw [if_pos (by omega), rdj, getD_at (by omega), List.getElem?_eq_getElem (by omega)]
      · exact he i (by omega)
theorem toIntS_ev (l : List Int) (hn : l.length ≤ 1048576) : Ev (fun k => laws_toIntS.f k l) l := by
  refine Ev.congr (fun k => ?_) (toIntS_l l hn l.length 0 (List.replicate l.length 0) (by omega) (by simp) (fun i hi => by omega))
  simp only [laws_toIntS.f]
  rw [if_pos (by omega), if_pos (by omega)]
  rfl

theorem eqIntS_l (l : List Int) (hn : l.length ≤ 1048576) (d : Nat) : ∀ (j : Nat), j + d = l.length → Ev (fun k => laws_eqIntS.l0 k l l (j : Int)) true := by
  induction d with
  | zero =>
    intro j hj
    refine Ev.step (f := fun _ => some true) (fun k => ?_) (Ev.now _)
    simp only [laws_eqIntS.l0]
    rw [if_neg (by omega)]
  | succ d ih =>
    intro j hj
    refine Ev.step (fun k => ?_) (ih (j + 1) (by omega))
    simp only [laws_eqIntS.l0]
    rw [if_pos (by omega), if_pos (by omega), if_pos (by omega), if_pos trivial, wj (n := l.length) (by omega) (by omega)]
theorem eqIntS_ev (l : List Int) (hn : l.length ≤ 1048576) : Ev (fun k => laws_eqIntS.f k l l) true := by
  refine Ev.congr (fun k => ?_) (eqIntS_l l hn l.length 0 (by omega))
  simp only [laws_eqIntS.f]
  rw [if_pos trivial]
  rfl

theorem markText_l (n : Nat) : ∀ (t : ByteArray), n ≤ 1099511627776 → t.size + n ≤ 2199023255552 → ∃ r, Ev (fun k => laws_markText.l0 k (n : Int) t) r := by
  induction n using Nat.strongRecOn with
  | ind n ih =>
    intro t hn ht
    by_cases h0 : n = 0
    · subst h0
      refine ⟨(⟨#[109]⟩ : ByteArray) ++ t, Ev.step (f := fun _ => some ((⟨#[109]⟩ : ByteArray) ++ t)) (fun k => ?_) (Ev.now _)⟩
      simp only [laws_markText.l0]
      rw [if_neg (by omega), if_pos (by omega)]
    · have hd : n / 10 < n := by omega
      have hs : (strOfNums [(wrap64 (48 + (Int.tmod (n : Int) 10))) % 256]).size = 1 := by simp [strOfNums, ByteArray.size]
      obtain ⟨r, h⟩ := ih (n / 10) hd (strOfNums [(wrap64 (48 + (Int.tmod (n : Int) 10))) % 256] ++ t) (by omega) (by rw [ByteArray.size_append, hs]; omega)
      refine ⟨r, Ev.step (fun k => ?_) h⟩
      simp only [laws_markText.l0, Option.bind_some]
      rw [if_pos (by omega), if_pos (by rw [hs]; omega), show Int.tdiv (n : Int) 10 = ((n / 10 : Nat) : Int) from rfl, w64 (x := ((n / 10 : Nat) : Int)) (by omega) (by omega)]
theorem markText_ev (n : Nat) (hn : n ≤ 1099511627776) : ∃ r, Ev (fun k => laws_markText.f k (n : Int)) r := by
  by_cases h0 : (n : Int) ≤ 0
  · exact ⟨_, Ev.congr (fun k => by simp only [laws_markText.f]; rw [if_pos h0]) (Ev.now _)⟩
  · obtain ⟨r, h⟩ := markText_l n ⟨#[]⟩ hn (by show 0 + n ≤ _; omega)
    exact ⟨r, Ev.congr (fun k => by simp only [laws_markText.f]; rw [if_neg h0]) h⟩
/-- The text of a mark. -/
noncomputable def mtx (n : Nat) : ByteArray := if h : n ≤ 1099511627776 then (markText_ev n h).choose else ⟨#[]⟩
theorem mtx_ev (n : Nat) (hn : n ≤ 1099511627776) : Ev (fun k => laws_markText.f k (n : Int)) (mtx n) := by
  unfold mtx
  rw [dif_pos hn]
  exact (markText_ev n hn).choose_spec

theorem markStringS_l {n : Nat} (hn : n ≤ 1048576) (d : Nat) : ∀ (l : List ByteArray) (c j : Nat), l.length = n → j + d = n → c ≤ 2097152 + j →
    ∃ l', Ev (fun k => laws_markStringS.l0 k l (c : Int) (j : Int)) (((c + d : Nat) : Int), l') ∧ l'.length = n ∧ (∀ i, i < j → l'[i]? = l[i]?) ∧ ∀ i, j ≤ i → i < n → l'[i]? = some (mtx (c + (i - j))) := by
  induction d with
  | zero =>
    intro l c j hl hj hc
    refine ⟨l, Ev.step (f := fun _ => some (((c : Nat) : Int), l)) (fun k => ?_) (Ev.now _), hl, fun _ _ => rfl, fun i h1 h2 => by omega⟩
    simp only [laws_markStringS.l0]; rw [if_neg (by omega)]
  | succ d ih =>
    intro l c j hl hj hc
    obtain ⟨l', h, h1, h2, h3⟩ := ih (l.set j (mtx c)) (c + 1) (j + 1) (by simpa using hl) (by omega) (by omega)
    rw [show c + 1 + d = c + (d + 1) from by omega] at h
    refine ⟨l', Ev.step (f := fun k => (laws_markText.f k (c : Int)).bind fun t => laws_markStringS.l0 k (l.set j t) ((c + 1 : Nat) : Int) ((j + 1 : Nat) : Int)) (fun k => ?_) (Ev.bind (mtx_ev c (by omega)) h), h1, fun i hi => ?_, fun i hi hi' => ?_⟩
    · simp only [laws_markStringS.l0]
      rw [if_pos (by omega)]
      refine congrArg _ (funext fun t => ?_)
      rw [if_pos (by omega), w64 (x := (c : Int) + 1) (by omega) (by omega), wj (j := j) (n := n) (by omega) (by omega)]
      rfl
    · rw [h2 i (by omega), List.getElem?_set_ne (by omega)]
    · by_cases e : i = j
      · subst e
        rw [h2 i (by omega), List.getElem?_set_self (by omega)]
        simp
      · rw [h3 i (by omega) hi', show c + 1 + (i - (j + 1)) = c + (i - j) from by omega]
theorem heldStringS_l (l : List ByteArray) (hn : l.length ≤ 1048576) (b : Nat) (hb : b ≤ 2097152) (hl : ∀ i, i < l.length → l[i]? = some (mtx (b + i))) (d : Nat) : ∀ (j : Nat), j + d = l.length →
    Ev (fun k => laws_heldStringS.l0 k l ((b + j : Nat) : Int) (j : Int)) ((b + l.length : Nat) : Int) := by
  induction d with
  | zero =>
    intro j hj
    obtain rfl : j = l.length := by omega
    refine Ev.step (f := fun _ => some ((b + l.length : Nat) : Int)) (fun k => ?_) (Ev.now _)
    simp only [laws_heldStringS.l0]; rw [if_neg (by omega)]
  | succ d ih =>
    intro j hj
    have hlt : j < l.length := by omega
    refine Ev.step (f := fun k => (laws_markText.f k ((b + j : Nat) : Int)).bind fun t => if (mtx (b + j)).toList = t.toList then laws_heldStringS.l0 k l ((b + (j + 1) : Nat) : Int) ((j + 1 : Nat) : Int) else some (-1)) (fun k => ?_) (Ev.bind (mtx_ev (b + j) (by omega)) (by simpa using ih (j + 1) (by omega)))
    simp only [laws_heldStringS.l0]
    rw [if_pos (by omega), if_pos (by omega)]
    refine congrArg _ (funext fun t => ?_)
    rw [show rdOf ByteArray.empty l (j : Int) = mtx (b + j) from by
      unfold rdOf
      rw [Int.toNat_natCast, getD_at hlt]
      have := hl j hlt
      rw [List.getElem?_eq_getElem hlt] at this
      exact Option.some.inj this]
    rw [w64 (x := ((b + j : Nat) : Int) + 1) (by omega) (by omega), wj (j := j) (n := l.length) hlt (by omega)]
    rfl
theorem markStr_ev (l : List ByteArray) (c : Nat) (hn : l.length ≤ 1048576) (hc : c ≤ 2097152) : ∃ l', Ev (fun k => laws_markStringS.f k l (c : Int)) (((c + l.length : Nat) : Int), l') ∧ Ev (fun k => laws_heldStringS.f k l' (c : Int)) ((c + l.length : Nat) : Int) := by
  obtain ⟨l', h, h1, _, h3⟩ := markStringS_l (n := l.length) hn l.length l c 0 rfl (by omega) (by omega)
  refine ⟨l', h, ?_⟩
  have := heldStringS_l l' (by omega) c (by omega) (fun i hi => by rw [h3 i (by omega) (by omega)]; rfl) l'.length 0 (by omega)
  rw [h1] at this
  exact this

theorem markIntC_l {n : Nat} (hn : n ≤ 1048576) (d : Nat) : ∀ (l : List Int) (c j : Nat), l.length = n → j + d = n → c ≤ 8388608 + j → ∃ l', Ev (fun k => laws_markIntS.l0 k l (c : Int) (j : Int)) (((c + d : Nat) : Int), l') := by
  induction d with
  | zero =>
    intro l c j hl hj hc
    refine ⟨l, Ev.step (f := fun _ => some (((c : Nat) : Int), l)) (fun k => ?_) (Ev.now _)⟩
    simp only [laws_markIntS.l0]; rw [if_neg (by omega)]
  | succ d ih =>
    intro l c j hl hj hc
    obtain ⟨l', h⟩ := ih (l.set j (c : Int)) (c + 1) (j + 1) (by simpa using hl) (by omega) (by omega)
    rw [show c + 1 + d = c + (d + 1) from by omega] at h
    refine ⟨l', Ev.step (fun k => ?_) h⟩
    simp only [laws_markIntS.l0]
    rw [if_pos (by omega), if_pos (by omega), w64 (x := (c : Int) + 1) (by omega) (by omega), wj (j := j) (n := n) (by omega) (by omega)]
    rfl
theorem markIntC_ev (l : List Int) (c : Nat) (hn : l.length ≤ 1048576) (hc : c ≤ 8388608) : ∃ l', Ev (fun k => laws_markIntS.f k l (c : Int)) (((c + l.length : Nat) : Int), l') :=
  markIntC_l (n := l.length) hn l.length l c 0 rfl (by omega) (by omega)

theorem eqStringS_l (l : List ByteArray) (hn : l.length ≤ 1048576) (d : Nat) : ∀ (j : Nat), j + d = l.length → Ev (fun k => laws_eqStringS.l0 k l l (j : Int)) true := by
  induction d with
  | zero =>
    intro j hj
    refine Ev.step (f := fun _ => some true) (fun k => ?_) (Ev.now _)
    simp only [laws_eqStringS.l0]
    rw [if_neg (by omega)]
  | succ d ih =>
    intro j hj
    refine Ev.step (fun k => ?_) (ih (j + 1) (by omega))
    simp only [laws_eqStringS.l0]
    rw [if_pos (by omega), if_pos (by omega), if_pos (by omega), if_pos trivial, wj (n := l.length) (by omega) (by omega)]
theorem eqStringS_ev (l : List ByteArray) (hn : l.length ≤ 1048576) : Ev (fun k => laws_eqStringS.f k l l) true := by
  refine Ev.congr (fun k => ?_) (eqStringS_l l hn l.length 0 (by omega))
  simp only [laws_eqStringS.f]
  rw [if_pos trivial]
  rfl

theorem rdS (l : List ByteArray) (j : Nat) (h : j < l.length) : rdOf ByteArray.empty l (j : Int) = l[j] := getD_at h _
theorem szSt_l (l : List ByteArray) (hw : ∀ x ∈ l, x.size ≤ 140737488351232) (hn : l.length ≤ 1048576) (d : Nat) : ∀ (j : Nat) (c : Int), j + d = l.length → 0 ≤ c → c ≤ 1048576 →
    ∃ r, Ev (fun k => laws_szStringS.l0 k l c (j : Int)) r ∧ (0 ≤ r → r ≤ c ∧ ∀ i (h : i < l.length), j ≤ i → (l[i].size : Int) ≤ c) := by
  induction d with
  | zero =>
    intro j c hj h0 h1
    refine ⟨c, Ev.step (f := fun _ => some c) (fun k => ?_) (Ev.now _), fun _ => ⟨Int.le_refl _, fun i h hi => by omega⟩⟩
    simp only [laws_szStringS.l0]; rw [if_neg (by omega)]
  | succ d ih =>
    intro j c hj h0 h1
    have hlt : j < l.length := by omega
    have w0 := hw _ (List.getElem_mem hlt)
    have e1 : wrap64 (c - (l[j].size : Int)) = c - (l[j].size : Int) := w64 (by omega) (by omega)
    have hstep : ∀ k, laws_szStringS.l0 (k + 1) l c (j : Int) = if c - (l[j].size : Int) < 0 then some (-1) else laws_szStringS.l0 k l (c - (l[j].size : Int)) ((j + 1 : Nat) : Int) := fun k => by
      simp only [laws_szStringS.l0]
      rw [if_pos (by omega), if_pos (by omega), rdS l j hlt, e1, wj (n := l.length) hlt (by omega)]
    by_cases c1 : c - (l[j].size : Int) < 0
    · exact ⟨-1, Ev.step (f := fun _ => some (-1)) (fun k => by rw [hstep, if_pos c1]) (Ev.now _), fun h => by omega⟩
    · obtain ⟨r, hr, hp⟩ := ih (j + 1) (c - (l[j].size : Int)) (by omega) (by omega) (by omega)
      refine ⟨r, Ev.step (fun k => by rw [hstep, if_neg c1]) hr, fun h => ?_⟩
      obtain ⟨h3, h4⟩ := hp h
      refine ⟨by omega, fun i hi hji => ?_⟩
      by_cases e : i = j
      · subst e; omega
      · have := h4 i hi (by omega); omega
theorem szSt_ev (l : List ByteArray) (hw : l.length * 16 ≤ 140737488351232 ∧ ∀ x ∈ l, x.size ≤ 140737488351232) :
    ∃ r, Ev (fun k => laws_szStringS.f k l 1048576) r ∧ (0 ≤ r → l.length ≤ 1048576 ∧ ∀ x ∈ l, x.size ≤ 1048576) := by
  have e1 : wrap64 (1048576 - (l.length : Int)) = 1048576 - (l.length : Int) := w64 (by omega) (by omega)
  by_cases c1 : 1048576 - (l.length : Int) < 0
  · refine ⟨-1, Ev.congr (fun k => by unfold laws_szStringS.f; rw [e1, if_pos c1]) (Ev.now _), fun h => by omega⟩
  · obtain ⟨r, hr, hp⟩ := szSt_l l hw.2 (by omega) l.length 0 (1048576 - (l.length : Int)) (by omega) (by omega) (by omega)
    refine ⟨r, Ev.congr (fun k => by unfold laws_szStringS.f; rw [e1, if_neg c1]; rfl) hr, fun h => ?_⟩
    obtain ⟨h3, h4⟩ := hp h
    refine ⟨by omega, fun x hx => ?_⟩
    obtain ⟨i, hi, rfl⟩ := List.getElem_of_mem hx
    have := h4 i hi (Nat.zero_le _)
    omega
theorem toSt_l (l : List ByteArray) (hn : l.length ≤ 1048576) (d : Nat) : ∀ (j : Nat) (x3 : List ByteArray), j + d = l.length → x3.length = l.length → (∀ i, i < j → x3[i]? = l[i]?) →
    Ev (fun k => laws_toStringS.l0 k l x3 (j : Int)) l := by
  induction d with
  | zero =>
    intro j x3 hj h3 he
    refine Ev.step (f := fun _ => some l) (fun k => ?_) (Ev.now _)
    simp only [laws_toStringS.l0]
    rw [if_neg (by omega)]
    refine congrArg some (List.ext_getElem? fun i => ?_)
    by_cases hi : i < j
    · exact he i hi
    · rw [List.getElem?_eq_none (by omega), List.getElem?_eq_none (by omega)]
  | succ d ih =>
    intro j x3 hj h3 he
    have hlt : j < l.length := by omega
    refine Ev.step (fun k => ?_) (ih (j + 1) (x3.set j l[j]) (by omega) (by simpa using h3) (fun i hi => ?_))
    · simp only [laws_toStringS.l0]
      rw [if_pos (by omega), if_pos (by omega), if_pos (by omega), wj (n := l.length) (by omega) (by omega), rdS l j hlt]
      rfl
    · rw [List.getElem?_set]
      split
      · rename_i h
        subst h
        rw [if_pos (by omega), List.getElem?_eq_getElem (by omega)]
      · exact he i (by omega)
theorem toSt_ev (l : List ByteArray) (hn : l.length ≤ 1048576) : Ev (fun k => laws_toStringS.f k l) l := by
  refine Ev.congr (fun k => ?_) (toSt_l l hn l.length 0 (List.replicate l.length ⟨#[]⟩) (by omega) (by simp) (fun i hi => by omega))
  simp only [laws_toStringS.f]
  rw [if_pos (by omega), if_pos (by omega)]
  rfl

def srvP (l : List Int) : Prop := (∀ x ∈ l, 0 ≤ x ∧ x ≤ 99) ∧ (∀ j, j + 1 < l.length → l.getD j 0 < l.getD (j + 1) 0) ∧ l.length ≤ 12
theorem specSrv_l (l : List Int) (hn : l.length ≤ 1048576) (d : Nat) : ∀ (j : Nat), j + d = l.length → (∀ i, i < j → 0 ≤ l.getD i 0 ∧ l.getD i 0 ≤ 99) → (∀ i, i + 1 < j → l.getD i 0 < l.getD (i + 1) 0) →
    ∃ b, Ev (fun k => spec_l14Servers.l0 k l l (l.length : Int) (j : Int)) b ∧ (b = true ↔ srvP l) := by
  induction d with
  | zero =>
    intro j hj h1 h2
    refine ⟨decide ((l.length : Int) ≤ 12), Ev.step (f := fun _ => some (decide ((l.length : Int) ≤ 12))) (fun k => ?_) (Ev.now _), ?_⟩
    · simp only [spec_l14Servers.l0]; rw [if_neg (by omega)]
    · rw [decide_eq_true_eq]
      refine ⟨fun h => ⟨fun x hx => ?_, fun i hi => h2 i (by omega), by omega⟩, fun h => by have := h.2.2; omega⟩
      obtain ⟨i, hi, rfl⟩ := List.getElem_of_mem hx
      have := h1 i (by omega)
      rw [getD_at hi] at this; exact this
  | succ d ih =>
    intro j hj h1 h2
    have hlt : j < l.length := by omega
    have hstep : ∀ k, spec_l14Servers.l0 (k + 1) l l (l.length : Int) (j : Int) = if 0 ≤ l.getD j 0 ∧ l.getD j 0 ≤ 99 then (if (j : Int) > 0 then (if l.getD (j - 1) 0 ≥ l.getD j 0 then some false else spec_l14Servers.l0 k l l (l.length : Int) ((j + 1 : Nat) : Int)) else spec_l14Servers.l0 k l l (l.length : Int) ((j + 1 : Nat) : Int)) else some false := fun k => by
      simp only [spec_l14Servers.l0]
      rw [if_pos (by omega), if_pos (by omega), if_pos (by omega), l1In_eq, wj (n := l.length) hlt (by omega), rdj]
      simp only [Option.bind_some, decide_eq_true_eq]
      by_cases cB : 0 ≤ l.getD j 0 ∧ l.getD j 0 ≤ 99
      rotate_left
      · rw [if_neg cB, if_neg cB]
      rw [if_pos cB, if_pos cB]
      by_cases c0 : (j : Int) > 0
      · rw [if_pos c0, if_pos c0, w64 (x := (j : Int) - 1) (by omega) (by omega), if_pos (by omega), if_pos (by omega), show (j : Int) - 1 = ((j - 1 : Nat) : Int) by omega, rdj]
      · rw [if_neg c0, if_neg c0]
    have bad : ¬ srvP l → ∀ (h : ∀ k, spec_l14Servers.l0 (k + 1) l l (l.length : Int) (j : Int) = some false), ∃ b, Ev (fun k => spec_l14Servers.l0 k l l (l.length : Int) (j : Int)) b ∧ (b = true ↔ srvP l) := fun hb h => ⟨false, Ev.step (f := fun _ => some false) h (Ev.now _), ⟨fun e => (by cases e), fun e => absurd e hb⟩⟩
    by_cases c1 : 0 ≤ l.getD j 0 ∧ l.getD j 0 ≤ 99
    · by_cases c2 : (j : Int) > 0
      · by_cases c3 : l.getD (j - 1) 0 ≥ l.getD j 0
        · refine bad (fun h => ?_) (fun k => by rw [hstep, if_pos c1, if_pos c2, if_pos c3])
          have := h.2.1 (j - 1) (by omega)
          rw [show j - 1 + 1 = j by omega] at this
          omega
        · obtain ⟨b, e1, e2⟩ := ih (j + 1) (by omega) (fun i hi => by
            by_cases e : i = j
            · rw [e]; exact c1
            · exact h1 i (by omega)) (fun i hi => by
            by_cases e : i + 1 = j
            · obtain rfl : i = j - 1 := by omega
              rw [show j - 1 + 1 = j by omega]; omega
            · exact h2 i (by omega))
          exact ⟨b, Ev.step (fun k => by rw [hstep, if_pos c1, if_pos c2, if_neg c3]) e1, e2⟩
      · obtain ⟨b, e1, e2⟩ := ih (j + 1) (by omega) (fun i hi => by
          by_cases e : i = j
          · rw [e]; exact c1
          · exact h1 i (by omega)) (fun i hi => by omega)
        exact ⟨b, Ev.step (fun k => by rw [hstep, if_pos c1, if_neg c2]) e1, e2⟩
    · refine bad (fun h => ?_) (fun k => by rw [hstep, if_neg c1])
      exact c1 (by rw [getD_at hlt]; exact h.1 _ (List.getElem_mem hlt))
theorem allSrv_iff : ∀ l : List Int, ∃ b, impl_areAll_int__69.f l = some b ∧ (b = true ↔ ∀ x ∈ l, 0 ≤ x ∧ x ≤ 99)
  | [] => ⟨true, rfl, by simp⟩
  | x :: xs => by
    obtain ⟨b, h1, h2⟩ := allSrv_iff xs
    have e : impl_areAll_int__69.f (x :: xs) = if 0 ≤ x ∧ x ≤ 99 then impl_areAll_int__69.f xs else some false := by
      show (impl_isServer.f x).bind _ = _
      unfold impl_isServer.f
      rw [within_eq]
      by_cases c : 0 ≤ x ∧ x ≤ 99
      · rw [decide_eq_true c, if_pos c]; rfl
      · rw [decide_eq_false c, if_neg c]; rfl
    by_cases c : 0 ≤ x ∧ x ≤ 99
    · exact ⟨b, by rw [e, if_pos c, h1], by rw [h2]; simp [c]⟩
    · exact ⟨false, by rw [e, if_neg c], ⟨fun h => (by cases h), fun h => absurd (h x List.mem_cons_self) c⟩⟩
theorem implSrv_l (l : List Int) (hn : l.length ≤ 1048576) (d : Nat) : ∀ (j : Nat), 1 ≤ j → j + d = l.length ∨ (j = 1 ∧ l.length = 0 ∧ d = 0) → (∀ i, i + 1 < j → l.getD i 0 < l.getD (i + 1) 0) →
    ∃ b, Ev (fun k => impl_areServers.l0 k l (j : Int)) b ∧ (b = true ↔ srvP l) := by
  induction d with
  | zero =>
    intro j hj1 hj h2
    have hstep : ∀ k, impl_areServers.l0 (k + 1) l (j : Int) = if (l.length : Int) ≤ 12 then ((impl_areAll_int__69.f l).bind fun t167 => (some t167)) else (some false) := fun k => by
      simp only [impl_areServers.l0]; rw [if_neg (by omega)]
    obtain ⟨b, e1, e2⟩ := allSrv_iff l
    by_cases c : (l.length : Int) ≤ 12
    · refine ⟨b, Ev.step (f := fun _ => some b) (fun k => by rw [hstep, if_pos c, e1]; rfl) (Ev.now _), ?_⟩
      rw [e2]
      exact ⟨fun h => ⟨h, fun i hi => h2 i (by omega), by omega⟩, fun h => h.1⟩
    · exact ⟨false, Ev.step (f := fun _ => some false) (fun k => by rw [hstep, if_neg c]) (Ev.now _), ⟨fun h => (by cases h), fun h => absurd h.2.2 (by omega)⟩⟩
  | succ d ih =>
    intro j hj1 hj h2
    have hlt : j < l.length := by omega
    have hstep : ∀ k, impl_areServers.l0 (k + 1) l (j : Int) = if l.getD j 0 ≤ l.getD (j - 1) 0 then some false else impl_areServers.l0 k l ((j + 1 : Nat) : Int) := fun k => by
      simp only [impl_areServers.l0]
      rw [if_pos (by omega), if_pos (by omega), w64 (x := (j : Int) - 1) (by omega) (by omega), if_pos (by omega), if_pos (by omega), wj (n := l.length) hlt (by omega), show (j : Int) - 1 = ((j - 1 : Nat) : Int) by omega, rdj, rdj]
    by_cases c : l.getD j 0 ≤ l.getD (j - 1) 0
    · refine ⟨false, Ev.step (f := fun _ => some false) (fun k => by rw [hstep, if_pos c]) (Ev.now _), ⟨fun h => (by cases h), fun h => ?_⟩⟩
      have := h.2.1 (j - 1) (by omega)
      rw [show j - 1 + 1 = j by omega] at this
      omega
    · obtain ⟨b, e1, e2⟩ := ih (j + 1) (by omega) (.inl (by omega)) (fun i hi => by
        by_cases e : i + 1 = j
        · obtain rfl : i = j - 1 := by omega
          rw [show j - 1 + 1 = j by omega]; omega
        · exact h2 i (by omega))
      exact ⟨b, Ev.step (fun k => by rw [hstep, if_neg c]) e1, e2⟩
theorem srv_both (l : List Int) (hn : l.length ≤ 1048576) : ∃ b, Ev (fun k => spec_l14Servers.f k l) b ∧ Ev (fun k => impl_areServers.f k l) b ∧ (b = true → srvP l) ∧ (srvP l → b = true) := by
  obtain ⟨b, h1, h2⟩ := specSrv_l l hn l.length 0 (by omega) (fun i hi => by omega) (fun i hi => by omega)
  obtain ⟨b', h3, h4⟩ := implSrv_l l hn (l.length - 1) 1 (Nat.le_refl _) (by omega) (fun i hi => by omega)
  have e : b = b' := Bool.eq_iff_iff.2 (h2.trans h4.symm)
  subst e
  exact ⟨b, h1, h3, h2.1, h2.2⟩
theorem num_all : ∀ n : Nat, n < 100 → spec_l1Num.f 2 (n : Int) = some (numT n) := by decide +kernel
theorem num_ev (x : Int) (h : 0 ≤ x ∧ x < 100) : Ev (fun k => spec_l1Num.f k x) (numT x.toNat) := by
  refine ⟨2, fun k hk => at_rounds (fun k => (spec_l1Num.mono_l k) x) hk ?_⟩
  have := num_all x.toNat (by omega)
  rw [show ((x.toNat : Nat) : Int) = x by omega] at this
  exact this
theorem specHash_l (s : ByteArray) (hs : s.size ≤ 4611686018427387904) (d : Nat) : ∀ (j : Nat) (h : Int), j + d = s.size →
    Ev (fun k => spec_HashOf.l0 k s h (j : Int)) (Go.bits .xor .u32 (((Go.bits .xor .u32 (hashN s d j h) ((hashN s d j h) / 32768)) * 2246822507) % 4294967296) ((((Go.bits .xor .u32 (hashN s d j h) ((hashN s d j h) / 32768)) * 2246822507) % 4294967296) / 8192)) := by
  induction d with
  | zero =>
    intro j h hj
    refine Ev.step (f := fun _ => some _) (fun k => ?_) (Ev.now _)
    simp only [spec_HashOf.l0]; rw [if_neg (by omega)]; rfl
  | succ d ih =>
    intro j h hj
    refine Ev.step (fun k => ?_) (ih (j + 1) _ (by omega))
    simp only [spec_HashOf.l0]
    rw [if_pos (by omega), if_pos (by omega), wj (n := s.size) (by omega) (by omega)]
theorem specHash_ev (s : ByteArray) (hs : s.size ≤ 4611686018427387904) : Ev (fun k => spec_HashOf.f k s) (hashT s) := specHash_l s hs s.size 0 _ (by omega)
theorem keyT_ev {β : Type} (key : ByteArray) (hk : key.size ≤ 1152921504606846976) (x : Int) (h : 0 ≤ x ∧ x < 100) (K : Nat → Int → Option β) (r : β) (hK : Ev (fun k => K k (hashT (keyT key x))) r) :
    Ev (fun k => (spec_l1Num.f k x).bind fun t => if t.size + 1 ≤ 9223372036854775807 then (if (t ++ (⟨#[47]⟩ : ByteArray)).size + key.size ≤ 9223372036854775807 then ((spec_HashOf.f k ((t ++ (⟨#[47]⟩ : ByteArray)) ++ key)).bind fun q => K k q) else none) else none) r := by
  have hd := digits_size x.toNat
  have h1 : (⟨#[47]⟩ : ByteArray).size = 1 := rfl
  refine Ev.bind (num_ev x h) ?_
  simp only [if_pos (show (numT x.toNat).size + 1 ≤ 9223372036854775807 by omega), ByteArray.size_append, if_pos (show (numT x.toNat).size + (⟨#[47]⟩ : ByteArray).size + key.size ≤ 9223372036854775807 by omega)]
  exact Ev.bind (specHash_ev _ (by simp only [ByteArray.size_append]; omega)) hK
theorem ins_l (key : ByteArray) (hk : key.size ≤ 1152921504606846976) (x : Int) (out l : List Int) (hout : ∀ y ∈ out, 0 ≤ y ∧ y < 100) (hlen : out.length ≤ 1000000) (i : Nat) (hi : i < l.length) (hl : l.length ≤ 1048576) (R : List Int) (d : Nat) : ∀ (j : Nat), j + d = out.length →
    Ev (fun k => spec_l14Ranked.l0 k key (out.take j ++ insD (fun x => hashT (keyT key x)) x (out.drop j)) l (l.length : Int) ((i + 1 : Nat) : Int)) R →
    Ev (fun k => spec_l14Ranked.l1 k key out x (hashT (keyT key x)) (j : Int) l (l.length : Int) (i : Int)) R := by
  induction d with
  | zero =>
    intro j hj hR
    obtain rfl : j = out.length := by omega
    rw [List.drop_of_length_le (Nat.le_refl _), List.take_of_length_le (Nat.le_refl _)] at hR
    refine Ev.step (fun k => ?_) hR
    simp only [spec_l14Ranked.l1]
    rw [if_neg (by omega), if_pos (by omega), if_pos (by omega)]
    simp only [Option.bind_some, Int.toNat_natCast, List.take_of_length_le (Nat.le_refl out.length), List.drop_of_length_le (Nat.le_refl out.length), List.nil_append, List.length_nil, Nat.zero_add, List.append_nil, insD, wj (n := l.length) hi (by omega)]
    rw [if_pos (by omega), if_pos (by omega), if_pos (by simp; omega)]
  | succ d ih =>
    intro j hj hR
    have hlt : j < out.length := by omega
    have hy := hout _ (List.getElem_mem hlt)
    have er : rd out (j : Int) = out[j] := by rw [rdj, getD_at hlt]
    refine Ev.step (f := fun k => (spec_l1Num.f k out[j]).bind fun t => if t.size + 1 ≤ 9223372036854775807 then (if (t ++ (⟨#[47]⟩ : ByteArray)).size + key.size ≤ 9223372036854775807 then ((spec_HashOf.f k ((t ++ (⟨#[47]⟩ : ByteArray)) ++ key)).bind fun q => if q ≥ hashT (keyT key x) then spec_l14Ranked.l1 k key out x (hashT (keyT key x)) ((j + 1 : Nat) : Int) l (l.length : Int) (i : Int) else spec_l14Ranked.l0 k key (out.take j ++ x :: out.drop j) l (l.length : Int) ((i + 1 : Nat) : Int)) else none) else none) (fun k => ?_) (keyT_ev key hk out[j] hy _ _ ?_)
    · simp only [spec_l14Ranked.l1]
      rw [if_pos (by omega), if_pos (by omega), er]
      refine congrArg _ (funext fun t => ?_)
      split
      · split
        · refine congrArg _ (funext fun q => ?_)
          split
          · rw [wj (n := out.length) hlt (by omega)]
          · simp only [Option.bind_some, Int.toNat_natCast, List.nil_append, List.length_nil, Nat.zero_add, wj (n := l.length) hi (by omega)]
            rw [if_pos (by omega), if_pos (by simp; omega), if_pos (by simp; omega), if_pos (by simp; omega)]
            simp
        · rfl
      · rfl
    · rw [List.drop_eq_getElem_cons hlt] at hR
      simp only [insD] at hR
      by_cases c : hashT (keyT key out[j]) ≥ hashT (keyT key x)
      · simp only [if_pos c]
        rw [if_pos (show hashT (keyT key x) ≤ hashT (keyT key out[j]) from c)] at hR
        refine ih (j + 1) (by omega) ?_
        rw [List.take_succ_eq_append_getElem hlt, List.append_assoc]
        exact hR
      · simp only [if_neg c]
        rw [if_neg (show ¬ hashT (keyT key x) ≤ hashT (keyT key out[j]) from c), ← List.drop_eq_getElem_cons hlt] at hR
        exact hR
theorem rank_l (key : ByteArray) (hk : key.size ≤ 1152921504606846976) (l : List Int) (hx : ∀ x ∈ l, 0 ≤ x ∧ x < 100) (hl : l.length ≤ 1000) (d : Nat) : ∀ (i : Nat) (out : List Int), i + d = l.length → out.length = i → (∀ y ∈ out, 0 ≤ y ∧ y < 100) →
    Ev (fun k => spec_l14Ranked.l0 k key out l (l.length : Int) (i : Int)) ((l.drop i).foldl (fun out x => insD (fun x => hashT (keyT key x)) x out) out) := by
  induction d with
  | zero =>
    intro i out hi ho hout
    rw [List.drop_of_length_le (by omega)]
    refine Ev.step (f := fun _ => some out) (fun k => ?_) (Ev.now _)
    simp only [spec_l14Ranked.l0]; rw [if_neg (by omega)]
  | succ d ih =>
    intro i out hi ho hout
    have hlt : i < l.length := by omega
    have hxi := hx _ (List.getElem_mem hlt)
    have er : rd l (i : Int) = l[i] := by rw [rdj, getD_at hlt]
    rw [List.drop_eq_getElem_cons hlt, List.foldl_cons]
    refine Ev.step (f := fun k => (spec_l1Num.f k l[i]).bind fun t => if t.size + 1 ≤ 9223372036854775807 then (if (t ++ (⟨#[47]⟩ : ByteArray)).size + key.size ≤ 9223372036854775807 then ((spec_HashOf.f k ((t ++ (⟨#[47]⟩ : ByteArray)) ++ key)).bind fun q => spec_l14Ranked.l1 k key out l[i] q 0 l (l.length : Int) (i : Int)) else none) else none) (fun k => ?_) (keyT_ev key hk l[i] hxi _ _ ?_)
    · simp only [spec_l14Ranked.l0]
      rw [if_pos (by omega), if_pos (by omega), if_pos (by omega), er]
    · refine ins_l key hk l[i] out l hout (by omega) i hlt (by omega) _ out.length 0 (by omega) ?_
      rw [List.take_zero, List.drop_zero, List.nil_append]
      refine ih (i + 1) _ (by omega) (by rw [insD_length]; omega) (fun y hy => ?_)
      rcases (insD_mem _ _ _ _).1 hy with e | e
      · rw [e]; exact hxi
      · exact hout y e
def rankT (key : ByteArray) (l : List Int) : List Int := rankL (fun x => hashT (keyT key x)) l
theorem rank_spec (key : ByteArray) (hk : key.size ≤ 1152921504606846976) (l : List Int) (h : srvP l) : Ev (fun k => spec_l14Ranked.f k l key) (rankT key l) := by
  have := h.2.2
  have hr := rank_l key hk l (fun x hx => by have := h.1 x hx; omega) (by omega) l.length 0 [] (by omega) rfl (by simp)
  rw [List.drop_zero] at hr
  exact hr
theorem rank_impl (key : ByteArray) (hk : key.size ≤ 1152921504606846976) (l : List Int) (h : srvP l) : impl_ranked.f l key = some (rankT key l) := by
  unfold impl_ranked.f
  rw [if_pos ⟨by have := h.2.2; omega, fun x hx => by have := h.1 x hx; omega, hk⟩]
  rfl

theorem rankT_pos (key : ByteArray) (l : List Int) (h : ¬ (l.length : Int) = 0) : (0 : Int) < ((rankT key l).length : Int) := by
  unfold rankT; rw [rankL_length]; omega
theorem Moved_l (keys : List ByteArray) (hn : keys.length ≤ 60) (hz : ∀ x ∈ keys, x.size ≤ 1152921504606846976) (a b : List Int) (ha : srvP a) (hb : srvP b) (ha0 : ¬ (a.length : Int) = 0) (hb0 : ¬ (b.length : Int) = 0) (d : Nat) : ∀ (j : Nat) (out : List ByteArray), j + d = keys.length → out.length ≤ j →
    ∃ r, Ev (fun k => spec_MovedKeys.l0 k a b out keys (keys.length : Int) (j : Int)) (r, true) ∧ Ev (fun k => impl_MovedKeys.l0 k a b out keys (keys.length : Int) (j : Int)) (r, true) ∧ r.length ≤ 60 := by
  induction d with
  | zero =>
    intro j out hj ho
    refine ⟨out, Ev.step (f := fun _ => some (out, true)) (fun k => ?_) (Ev.now _), Ev.step (f := fun _ => some (out, true)) (fun k => ?_) (Ev.now _), by omega⟩
    · simp only [spec_MovedKeys.l0]; rw [if_neg (by omega)]
    · simp only [impl_MovedKeys.l0]; rw [if_neg (by omega)]
  | succ d ih =>
    intro j out hj ho
    have hlt : j < keys.length := by omega
    have hkz := hz _ (List.getElem_mem hlt)
    have er : rdOf ByteArray.empty keys (j : Int) = keys[j] := getD_at hlt _
    have pa := rankT_pos keys[j] a ha0
    have pb := rankT_pos keys[j] b hb0
    have hS : ∀ k, spec_MovedKeys.l0 (k + 1) a b out keys (keys.length : Int) (j : Int) = (spec_l14Ranked.f k a keys[j]).bind fun t => if 0 < (t.length : Int) then ((spec_l14Ranked.f k b keys[j]).bind fun u => if 0 < (u.length : Int) then (if (rd t 0) = (rd u 0) then spec_MovedKeys.l0 k a b out keys (keys.length : Int) ((j + 1 : Nat) : Int) else (if out.length < 8796093022208 then spec_MovedKeys.l0 k a b (out ++ [keys[j]]) keys (keys.length : Int) ((j + 1 : Nat) : Int) else none)) else none) else none := fun k => by
      simp only [spec_MovedKeys.l0]
      rw [if_pos (by omega), if_pos (by omega), if_pos (by omega), er, wj (n := keys.length) hlt (by omega)]
    have hI : ∀ k, impl_MovedKeys.l0 (k + 1) a b out keys (keys.length : Int) (j : Int) = if (rd (rankT keys[j] a) 0) = (rd (rankT keys[j] b) 0) then impl_MovedKeys.l0 k a b out keys (keys.length : Int) ((j + 1 : Nat) : Int) else impl_MovedKeys.l0 k a b (out ++ [keys[j]]) keys (keys.length : Int) ((j + 1 : Nat) : Int) := fun k => by
      simp only [impl_MovedKeys.l0]
      rw [if_pos (by omega), if_pos (by omega), if_pos (by omega), er, wj (n := keys.length) hlt (by omega), rank_impl _ hkz a ha, rank_impl _ hkz b hb]
      simp only [Option.bind_some, if_pos pa, if_pos pb, if_pos (show out.length < 8796093022208 by omega)]
    have go : ∀ R, Ev (fun k => if (rd (rankT keys[j] a) 0) = (rd (rankT keys[j] b) 0) then spec_MovedKeys.l0 k a b out keys (keys.length : Int) ((j + 1 : Nat) : Int) else spec_MovedKeys.l0 k a b (out ++ [keys[j]]) keys (keys.length : Int) ((j + 1 : Nat) : Int)) R → Ev (fun k => spec_MovedKeys.l0 k a b out keys (keys.length : Int) (j : Int)) R := fun R h => by
      refine Ev.step hS (Ev.bind (rank_spec _ hkz a ha) ?_)
      simp only [if_pos pa]
      refine Ev.bind (rank_spec _ hkz b hb) ?_
      simp only [if_pos pb, if_pos (show out.length < 8796093022208 by omega)]
      exact h
    by_cases c : (rd (rankT keys[j] a) 0) = (rd (rankT keys[j] b) 0)
    · obtain ⟨r, h1, h2, h3⟩ := ih (j + 1) out (by omega) (by omega)
      exact ⟨r, go _ (Ev.congr (fun k => by rw [if_pos c]) h1), Ev.step (fun k => by rw [hI, if_pos c]) h2, h3⟩
    · obtain ⟨r, h1, h2, h3⟩ := ih (j + 1) (out ++ [keys[j]]) (by omega) (by simp; omega)
      exact ⟨r, go _ (Ev.congr (fun k => by rw [if_neg c]) h1), Ev.step (fun k => by rw [hI, if_neg c]) h2, h3⟩
theorem MovedKeys_both (keys : List ByteArray) (a b : List Int) (hz : ∀ x ∈ keys, x.size ≤ 1152921504606846976) (hk : keys.length ≤ 1048576) (ha : a.length ≤ 1048576) (hb : b.length ≤ 1048576) :
    ∃ r c, Ev (fun k => spec_MovedKeys.f k keys a b) (r, c) ∧ Ev (fun k => impl_MovedKeys.f k keys a b) (r, c) ∧ r.length ≤ 60 := by
  have noS : Ev (fun k => spec_MovedKeys.j0 k keys a b true) ([], false) := Ev.step (f := fun _ => some ([], false)) (fun k => by simp only [spec_MovedKeys.j0]; rfl) (Ev.now _)
  have noI : Ev (fun k => impl_MovedKeys.j0 k keys a b true) ([], false) := Ev.step (f := fun _ => some ([], false)) (fun k => by simp only [impl_MovedKeys.j0]; rfl) (Ev.now _)
  obtain ⟨p, p1, p2, p3, _⟩ := srv_both a ha
  obtain ⟨q, q1, q2, q3, _⟩ := srv_both b hb
  unfold spec_MovedKeys.f impl_MovedKeys.f
  by_cases cp : p = true
  rotate_left
  · refine ⟨[], false, Ev.bind p1 ?_, ?_, by simp⟩
    · simp only [if_neg cp]; exact noS
    · by_cases c6 : (keys.length : Int) > 60
      · simp only [if_pos c6]; exact noI
      · simp only [if_neg c6]
        refine Ev.bind p2 ?_
        simp only [if_neg cp]; exact noI
  by_cases cq : q = true
  rotate_left
  · refine ⟨[], false, Ev.bind p1 ?_, ?_, by simp⟩
    · simp only [if_pos cp]
      refine Ev.bind q1 ?_
      simp only [if_neg cq]; exact noS
    · by_cases c6 : (keys.length : Int) > 60
      · simp only [if_pos c6]; exact noI
      · simp only [if_neg c6]
        refine Ev.bind p2 ?_
        simp only [if_pos cp]
        refine Ev.bind q2 ?_
        simp only [if_neg cq]; exact noI
  by_cases ca : (a.length : Int) = 0
  · refine ⟨[], false, Ev.bind p1 ?_, ?_, by simp⟩
    · simp only [if_pos cp]
      refine Ev.bind q1 ?_
      simp only [if_pos cq, if_pos ca]; exact noS
    · by_cases c6 : (keys.length : Int) > 60
      · simp only [if_pos c6]; exact noI
      · simp only [if_neg c6]
        refine Ev.bind p2 ?_
        simp only [if_pos cp]
        refine Ev.bind q2 ?_
        simp only [if_pos cq, if_pos ca]; exact noI
  by_cases cb : (b.length : Int) = 0
  · refine ⟨[], false, Ev.bind p1 ?_, ?_, by simp⟩
    · simp only [if_pos cp]
      refine Ev.bind q1 ?_
      simp only [if_pos cq, if_neg ca, if_pos cb]; exact noS
    · by_cases c6 : (keys.length : Int) > 60
      · simp only [if_pos c6]; exact noI
      · simp only [if_neg c6]
        refine Ev.bind p2 ?_
        simp only [if_pos cp]
        refine Ev.bind q2 ?_
        simp only [if_pos cq, if_neg ca, beq_iff_eq.2 cb]; exact noI
  by_cases c6 : (keys.length : Int) > 60
  · refine ⟨[], false, Ev.bind p1 ?_, ?_, by simp⟩
    · simp only [if_pos cp]
      refine Ev.bind q1 ?_
      simp only [if_pos cq, if_neg ca, if_neg cb, decide_eq_true c6]; exact noS
    · simp only [if_pos c6]; exact noI
  · obtain ⟨r, h1, h2, h3⟩ := Moved_l keys (by omega) hz a b (p3 cp) (q3 cq) ca cb keys.length 0 [] (by omega) (by simp)
    refine ⟨r, true, Ev.bind p1 ?_, ?_, h3⟩
    · simp only [if_pos cp]
      refine Ev.bind q1 ?_
      simp only [if_pos cq, if_neg ca, if_neg cb, decide_eq_false c6]
      exact Ev.step (fun k => by simp only [spec_MovedKeys.j0]; rfl) h1
    · simp only [if_neg c6]
      refine Ev.bind p2 ?_
      simp only [if_pos cp]
      refine Ev.bind q2 ?_
      simp only [if_pos cq, if_neg ca, beq_eq_false_iff_ne.2 cb]
      exact Ev.step (fun k => by simp only [impl_MovedKeys.j0]; rfl) h2
theorem FnExactMovedKeys : laws_FnExactMovedKeys.Pure := by
  rintro keys a b wk ⟨wa, _⟩ ⟨wb, _⟩
  refine Ev.law ?_
  unfold laws_FnExactMovedKeys.f
  by_cases ha : (a.length : Int) > 1048576
  · exact Ev.congr (fun k => by rw [if_pos ha]) (Ev.now _)
  by_cases hb : (b.length : Int) > 1048576
  · exact Ev.congr (fun k => by rw [if_neg ha, if_pos hb]) (Ev.now _)
  simp only [if_neg ha, if_neg hb]
  obtain ⟨r, z1, z2⟩ := szSt_ev keys wk
  refine Ev.bind z1 ?_
  by_cases c : r < 0
  · simp only [if_pos c]; exact Ev.now _
  simp only [if_neg c]
  obtain ⟨hk, zk⟩ := z2 (by omega)
  obtain ⟨out, ok, h2, h1, ho⟩ := MovedKeys_both keys a b (fun x hx => by have := zk x hx; omega) hk (by omega) (by omega)
  have t0 := toSt_ev keys hk
  have t1 := toIntS_ev a (by omega)
  have t2 := toIntS_ev b (by omega)
  have q0 := eqStringS_ev keys hk
  have q1 := eqIntS_ev a (by omega)
  have q2 := eqIntS_ev b (by omega)
  have q3 := eqStringS_ev out (by omega)
  obtain ⟨km, m0, _⟩ := markStr_ev keys 1 hk (by omega)
  obtain ⟨am, m1⟩ := markIntC_ev a (1 + keys.length) (by omega) (by omega)
  obtain ⟨bm, m2⟩ := markIntC_ev b (1 + keys.length + a.length) (by omega) (by omega)
  obtain ⟨om, m3, m4⟩ := markStr_ev out 1 (by omega) (by omega)
  have m0 : Ev (fun k => laws_markStringS.f k keys 1) _ := m0
  have m3 : Ev (fun k => laws_markStringS.f k out 1) _ := m3
  have m4 : Ev (fun k => laws_heldStringS.f k om 1) _ := m4
  have e1 : ¬ (((1 + out.length : Nat) : Int) < 0) := by omega
  have e2 : ¬ (((1 + keys.length + a.length + b.length : Nat) : Int) < 0) := by omega
  have J2 : Ev (fun k => laws_FnExactMovedKeys.j2 k om ((1 + out.length : Nat) : Int) false) true := by
    refine Ev.step (fun k => by simp only [laws_FnExactMovedKeys.j2]; rw [if_neg (by simp)]) (Ev.bind m4 ?_)
    simp only [if_neg e1, if_true]; exact Ev.now _
  have J1 : Ev (fun k => laws_FnExactMovedKeys.j1 k keys a b out ok out false) true := by
    refine Ev.step (fun k => by simp only [laws_FnExactMovedKeys.j1]; rw [if_neg (by simp)]) (Ev.bind m3 (Ev.bind m4 ?_))
    simp only [if_neg e1, if_true]
    refine Ev.bind t0 (Ev.bind t1 (Ev.bind t2 (Ev.bind h1 (Ev.bind q3 ?_))))
    simp only [if_true, bne_self_eq_false]
    exact J2
  have J0 : Ev (fun k => laws_FnExactMovedKeys.j0 k keys a b out ok keys a b out ok false) true := by
    refine Ev.step (fun k => by simp only [laws_FnExactMovedKeys.j0]; rw [if_neg (by simp)]) (Ev.bind t0 (Ev.bind q0 ?_))
    simp only [if_true]
    refine Ev.bind t1 (Ev.bind q1 ?_)
    simp only [if_true]
    refine Ev.bind t2 (Ev.bind q2 ?_)
    simp only [if_true]
    refine Ev.bind m0 (Ev.bind m1 (Ev.bind m2 ?_))
    simp only [if_neg e2]
    refine Ev.bind q3 ?_
    simp only [if_true, bne_self_eq_false]
    exact J1
  refine Ev.bind t0 (Ev.bind t1 (Ev.bind t2 (Ev.bind h2 (Ev.bind t0 (Ev.bind t1 (Ev.bind t2 (Ev.bind h1 (Ev.bind q3 ?_))))))))
  simp only [if_true, bne_self_eq_false]
  exact J0

end Go.Proofs.YtfopmaiednikhaaDoor.Pure
