/- The pure part of the law of PutEntry: a cache of two parts in lists, what both programs tell of putting. -/
import Derived.Test.YtfopmaiednikhaaPFnExactPutEntryx12
namespace Go.Proofs.Ytfopmaiednikhaa.Pure
open Go.RowKit Go.Proofs.Ytfopmaiednikhaa.PFnExactPutEntry Go.Proofs.YtfopmaiednikhaaW.PrintWords Go.Proofs.YtfopmaiednikhaaW.PrintLast Go.Proofs.YtfopmaiednikhaaW.PrintMore Go.Proofs.YtfopmaiednikhaaOwn
set_option linter.unusedVariables false
set_option linter.unusedSimpArgs false

theorem wj {j n : Nat} (h : j < n) (hn : n ≤ 4611686018427387904) : wrap64 ((j : Int) + 1) = ((j + 1 : Nat) : Int) := by
  unfold wrap64; omega
theorem w64 {x : Int} (h0 : -9223372036854775808 ≤ x) (h1 : x ≤ 9223372036854775807) : wrap64 x = x := by
  unfold wrap64; omega
theorem getD_at {α : Type} {l : List α} {j : Nat} (h : j < l.length) (z : α) : l.getD j z = l[j] := by
  rw [List.getD_eq_getElem?_getD, List.getElem?_eq_getElem h]; rfl
theorem markText_l (n : Nat) : ∀ (t : ByteArray), n ≤ 1099511627776 → t.size + n ≤ 2199023255552 → ∃ r, Ev (fun k => laws_markText.l0 k (n : Int) t) r := by
  induction n using Nat.strongRecOn with
  | ind n ih =>
    intro t hn ht
    by_cases h0 : n = 0
    · subst h0
      refine ⟨(⟨#[109]⟩ : ByteArray) ++ t, Ev.step (f := fun _ => some ((⟨#[109]⟩ : ByteArray) ++ t)) (fun k => ?_) (Ev.now _)⟩
      simp only [laws_markText.l0]
      rw [if_neg (by omega), if_pos (by omega)]
    · have hd : n / 10 < n := by omega
      have hs : (strOfNums [(wrap64 (48 + (Int.tmod (n : Int) 10))) % 256]).size = 1 := by simp [strOfNums, ByteArray.size]
      obtain ⟨r, h⟩ := ih (n / 10) hd (strOfNums [(wrap64 (48 + (Int.tmod (n : Int) 10))) % 256] ++ t) (by omega) (by rw [ByteArray.size_append, hs]; omega)
      refine ⟨r, Ev.step (fun k => ?_) h⟩
      simp only [laws_markText.l0, Option.bind_some]
      rw [if_pos (by omega), if_pos (by rw [hs]; omega), show Int.tdiv (n : Int) 10 = ((n / 10 : Nat) : Int) from rfl, w64 (x := ((n / 10 : Nat) : Int)) (by omega) (by omega)]
theorem markText_ev (n : Nat) (hn : n ≤ 1099511627776) : ∃ r, Ev (fun k => laws_markText.f k (n : Int)) r := by
  by_cases h0 : (n : Int) ≤ 0
  · exact ⟨_, Ev.congr (fun k => by simp only [laws_markText.f]; rw [if_pos h0]) (Ev.now _)⟩
  · obtain ⟨r, h⟩ := markText_l n ⟨#[]⟩ hn (by show 0 + n ≤ _; omega)
    exact ⟨r, Ev.congr (fun k => by simp only [laws_markText.f]; rw [if_neg h0]) h⟩
/-- The text of a mark. -/
noncomputable def mtx (n : Nat) : ByteArray := if h : n ≤ 1099511627776 then (markText_ev n h).choose else ⟨#[]⟩
theorem mtx_ev (n : Nat) (hn : n ≤ 1099511627776) : Ev (fun k => laws_markText.f k (n : Int)) (mtx n) := by
  unfold mtx
  rw [dif_pos hn]
  exact (markText_ev n hn).choose_spec

def cv (x : S49) : S45 := ⟨x.f0, x.f1⟩
theorem rd49j (l : List S49) (j : Nat) (h : j < l.length) : rd_T49 l (j : Int) = l[j] := by
  show l.getD j z49 = _
  exact getD_at h _
theorem rd45j (l : List S45) (j : Nat) (h : j < l.length) : rd_T45 l (j : Int) = l[j] := by
  show l.getD j z45 = _
  exact getD_at h _
theorem szS_l (l : List S49) (hw : ∀ x ∈ l, x.f0.size ≤ 140737488351232 ∧ x.f1.size ≤ 140737488351232) (hn : l.length ≤ 1048576) (d : Nat) : ∀ (j : Nat) (c : Int), j + d = l.length → 0 ≤ c → c ≤ 1048576 →
    ∃ r, Ev (fun k => laws_szEntryS.l0 k l c (j : Int)) r ∧ (0 ≤ r → r ≤ c ∧ ∀ i (h : i < l.length), j ≤ i → (l[i].f0.size : Int) ≤ c ∧ (l[i].f1.size : Int) ≤ c) := by
  induction d with
  | zero =>
    intro j c hj h0 h1
    refine ⟨c, Ev.step (f := fun _ => some c) (fun k => ?_) (Ev.now _), fun _ => ⟨Int.le_refl _, fun i h hi => by omega⟩⟩
    simp only [laws_szEntryS.l0]; rw [if_neg (by omega)]
  | succ d ih =>
    intro j c hj h0 h1
    have hlt : j < l.length := by omega
    obtain ⟨w0, w1⟩ := hw _ (List.getElem_mem hlt)
    have hstep : ∀ k, laws_szEntryS.l0 (k + 1) l c (j : Int) = (laws_szEntry.f l[j].f0 l[j].f1 c).bind fun t => if t < 0 then some (-1) else laws_szEntryS.l0 k l t ((j + 1 : Nat) : Int) := fun k => by
      simp only [laws_szEntryS.l0]
      rw [if_pos (by omega), if_pos (by omega), rd49j l j hlt, wj (n := l.length) hlt (by omega)]
    have e1 : wrap64 (c - (l[j].f0.size : Int)) = c - (l[j].f0.size : Int) := w64 (by omega) (by omega)
    by_cases c1 : c - (l[j].f0.size : Int) < 0
    · refine ⟨-1, Ev.step (f := fun _ => some (-1)) (fun k => ?_) (Ev.now _), fun h => by omega⟩
      rw [hstep]; unfold laws_szEntry.f; rw [e1, if_pos c1]; rfl
    · have e2 : wrap64 (c - (l[j].f0.size : Int) - (l[j].f1.size : Int)) = c - (l[j].f0.size : Int) - (l[j].f1.size : Int) := w64 (by omega) (by omega)
      by_cases c2 : c - (l[j].f0.size : Int) - (l[j].f1.size : Int) < 0
      · refine ⟨-1, Ev.step (f := fun _ => some (-1)) (fun k => ?_) (Ev.now _), fun h => by omega⟩
        rw [hstep]; unfold laws_szEntry.f; rw [e1, if_neg c1, e2, if_pos c2]; rfl
      · obtain ⟨r, hr, hp⟩ := ih (j + 1) (c - (l[j].f0.size : Int) - (l[j].f1.size : Int)) (by omega) (by omega) (by omega)
        refine ⟨r, Ev.step (fun k => ?_) hr, fun h => ?_⟩
        · rw [hstep]; unfold laws_szEntry.f; rw [e1, if_neg c1, e2, if_neg c2]
          show (if _ then _ else _) = _
          rw [if_neg c2]
        · obtain ⟨h3, h4⟩ := hp h
          refine ⟨by omega, fun i hi hji => ?_⟩
          by_cases e : i = j
          · subst e; omega
          · obtain ⟨h5, h6⟩ := h4 i hi (by omega)
            omega
theorem szS_ev (l : List S49) (hw : l.length * 32 ≤ 140737488351232 ∧ ∀ x ∈ l, wf49 x) (c : Int) (h0 : 0 ≤ c) (h1 : c ≤ 1048576) :
    ∃ r, Ev (fun k => laws_szEntryS.f k l c) r ∧ (0 ≤ r → r ≤ 1048576 ∧ l.length ≤ 1048576 ∧ ∀ x ∈ l, x.f0.size ≤ 1048576 ∧ x.f1.size ≤ 1048576) := by
  have e1 : wrap64 (c - (l.length : Int)) = c - (l.length : Int) := w64 (by omega) (by omega)
  by_cases c1 : c - (l.length : Int) < 0
  · refine ⟨-1, Ev.congr (fun k => by unfold laws_szEntryS.f; rw [e1, if_pos c1]) (Ev.now _), fun h => by omega⟩
  · obtain ⟨r, hr, hp⟩ := szS_l l hw.2 (by omega) l.length 0 (c - (l.length : Int)) (by omega) (by omega) (by omega)
    refine ⟨r, Ev.congr (fun k => by unfold laws_szEntryS.f; rw [e1, if_neg c1]; rfl) hr, fun h => ?_⟩
    obtain ⟨h3, h4⟩ := hp h
    refine ⟨by omega, by omega, fun x hx => ?_⟩
    obtain ⟨i, hi, rfl⟩ := List.getElem_of_mem hx
    have := h4 i hi (Nat.zero_le _)
    omega
theorem toES_l (l : List S49) (hn : l.length ≤ 1048576) (d : Nat) : ∀ (j : Nat) (x3 : List S45), j + d = l.length → x3.length = l.length → (∀ i, i < j → x3[i]? = (l.map cv)[i]?) →
    Ev (fun k => laws_toEntryS.l0 k l x3 (j : Int)) (l.map cv) := by
  induction d with
  | zero =>
    intro j x3 hj h3 he
    refine Ev.step (f := fun _ => some (l.map cv)) (fun k => ?_) (Ev.now _)
    simp only [laws_toEntryS.l0]
    rw [if_neg (by omega)]
    refine congrArg some (List.ext_getElem? fun i => ?_)
    by_cases hi : i < j
    · exact he i hi
    · rw [List.getElem?_eq_none (by omega), List.getElem?_eq_none (by simp; omega)]
  | succ d ih =>
    intro j x3 hj h3 he
    have hlt : j < l.length := by omega
    refine Ev.step (fun k => ?_) (ih (j + 1) (x3.set j (cv l[j])) (by omega) (by simpa using h3) (fun i hi => ?_))
    · simp only [laws_toEntryS.l0, laws_toEntry.f, Option.bind_some]
      rw [if_pos (by omega), if_pos (by omega), if_pos (by omega), wj (n := l.length) hlt (by omega), rd49j l j hlt]
      rfl
    · rw [List.getElem?_set]
      split
      · rename_i h
        subst h
        rw [if_pos (by omega), List.getElem?_map, List.getElem?_eq_getElem hlt]
        rfl
      · exact he i (by omega)
theorem toES_ev (l : List S49) (hn : l.length ≤ 1048576) : Ev (fun k => laws_toEntryS.f k l) (l.map cv) := by
  refine Ev.congr (fun k => ?_) (toES_l l hn l.length 0 (List.replicate l.length z45) (by omega) (by simp) (fun i hi => by omega))
  simp only [laws_toEntryS.f]
  rw [if_pos (by omega), if_pos (by omega)]
  rfl
theorem eqES_l (l : List S45) (hn : l.length ≤ 1048576) (d : Nat) : ∀ (j : Nat), j + d = l.length → Ev (fun k => laws_eqEntryS.l0 k l l (j : Int)) true := by
  induction d with
  | zero =>
    intro j hj
    refine Ev.step (f := fun _ => some true) (fun k => ?_) (Ev.now _)
    simp only [laws_eqEntryS.l0]
    rw [if_neg (by omega)]
  | succ d ih =>
    intro j hj
    refine Ev.step (fun k => ?_) (ih (j + 1) (by omega))
    simp only [laws_eqEntryS.l0, laws_eqEntry.f]
    rw [if_pos (by omega), if_pos (by omega), if_pos (by omega), if_pos trivial, if_pos trivial, wj (n := l.length) (by omega) (by omega)]
    rfl
theorem eqES_ev (l : List S45) (hn : l.length ≤ 1048576) : Ev (fun k => laws_eqEntryS.f k l l) true := by
  refine Ev.congr (fun k => ?_) (eqES_l l hn l.length 0 (by omega))
  simp only [laws_eqEntryS.f]
  rw [if_pos trivial]
  rfl
theorem markES_l {n : Nat} (hn : n ≤ 1048576) (d : Nat) : ∀ (l : List S45) (c j : Nat), l.length = n → j + d = n → c ≤ 8388608 + 2 * j →
    ∃ l', Ev (fun k => laws_markEntryS.l0 k l (c : Int) (j : Int)) (((c + 2 * d : Nat) : Int), l') ∧ l'.length = n ∧ (∀ i, i < j → l'[i]? = l[i]?) ∧ ∀ i, j ≤ i → i < n → l'[i]? = some ⟨mtx (c + 2 * (i - j)), mtx (c + 2 * (i - j) + 1)⟩ := by
  induction d with
  | zero =>
    intro l c j hl hj hc
    refine ⟨l, Ev.step (f := fun _ => some (((c : Nat) : Int), l)) (fun k => ?_) (Ev.now _), hl, fun _ _ => rfl, fun i h1 h2 => by omega⟩
    simp only [laws_markEntryS.l0]; rw [if_neg (by omega)]
  | succ d ih =>
    intro l c j hl hj hc
    have hlt : j < l.length := by omega
    obtain ⟨l', h, h1, h2, h3⟩ := ih (l.set j ⟨mtx c, mtx (c + 1)⟩) (c + 2) (j + 1) (by simpa using hl) (by omega) (by omega)
    rw [show c + 2 + 2 * d = c + 2 * (d + 1) from by omega] at h
    refine ⟨l', Ev.step (f := fun k => (laws_markText.f k (c : Int)).bind fun t => (laws_markText.f k ((c + 1 : Nat) : Int)).bind fun u => laws_markEntryS.l0 k (l.set j ⟨t, u⟩) ((c + 2 : Nat) : Int) ((j + 1 : Nat) : Int)) (fun k => ?_) (Ev.bind (mtx_ev c (by omega)) (Ev.bind (mtx_ev (c + 1) (by omega)) h)), h1, fun i hi => ?_, fun i hi hi' => ?_⟩
    · simp only [laws_markEntryS.l0]
      rw [if_pos (by omega)]
      refine congrArg _ (funext fun t => ?_)
      rw [if_pos (by omega), w64 (x := (c : Int) + 1) (by omega) (by omega), wj (j := j) (n := n) (by omega) (by omega)]
      simp only [Option.bind_some, Int.toNat_natCast]
      rw [show ((c : Int) + 1) = ((c + 1 : Nat) : Int) by omega]
      refine congrArg _ (funext fun u => ?_)
      rw [w64 (x := ((c + 1 : Nat) : Int) + 1) (by omega) (by omega), show (((c + 1 : Nat) : Int) + 1) = ((c + 2 : Nat) : Int) by omega, List.set_set, rd45j _ j (by simpa using hlt)]
      simp
    · rw [h2 i (by omega), List.getElem?_set_ne (by omega)]
    · by_cases e : i = j
      · subst e
        rw [h2 i (by omega), List.getElem?_set_self (by omega)]
        simp
      · rw [h3 i (by omega) hi', show c + 2 + 2 * (i - (j + 1)) = c + 2 * (i - j) from by omega]
theorem markES_ev (l : List S45) (c : Nat) (hn : l.length ≤ 1048576) (hc : c ≤ 8388608) : ∃ l', Ev (fun k => laws_markEntryS.f k l (c : Int)) (((c + 2 * l.length : Nat) : Int), l') ∧ l'.length = l.length ∧ ∀ i, i < l.length → l'[i]? = some ⟨mtx (c + 2 * i), mtx (c + 2 * i + 1)⟩ := by
  obtain ⟨l', h, h1, _, h3⟩ := markES_l (n := l.length) hn l.length l c 0 rfl (by omega) (by omega)
  exact ⟨l', h, h1, fun i hi => h3 i (Nat.zero_le _) hi⟩
theorem heldES_l (l : List S45) (hn : l.length ≤ 1048576) (b : Nat) (hb : b ≤ 8388608) (hl : ∀ i, i < l.length → l[i]? = some ⟨mtx (b + 2 * i), mtx (b + 2 * i + 1)⟩) (d : Nat) : ∀ (j : Nat), j + d = l.length →
    Ev (fun k => laws_heldEntryS.l0 k l ((b + 2 * j : Nat) : Int) (j : Int)) ((b + 2 * l.length : Nat) : Int) := by
  induction d with
  | zero =>
    intro j hj
    obtain rfl : j = l.length := by omega
    refine Ev.step (f := fun _ => some ((b + 2 * l.length : Nat) : Int)) (fun k => ?_) (Ev.now _)
    simp only [laws_heldEntryS.l0]; rw [if_neg (by omega)]
  | succ d ih =>
    intro j hj
    have hlt : j < l.length := by omega
    have he : l[j] = ⟨mtx (b + 2 * j), mtx (b + 2 * j + 1)⟩ := by
      have := hl j hlt
      rw [List.getElem?_eq_getElem hlt] at this
      exact Option.some.inj this
    refine Ev.step (f := fun k => (laws_markText.f k ((b + 2 * j : Nat) : Int)).bind fun t => if (mtx (b + 2 * j)).toList = t.toList then ((laws_markText.f k ((b + 2 * j + 1 : Nat) : Int)).bind fun u => if (mtx (b + 2 * j + 1)).toList = u.toList then laws_heldEntryS.l0 k l ((b + 2 * (j + 1) : Nat) : Int) ((j + 1 : Nat) : Int) else some (-1)) else some (-1)) (fun k => ?_) (Ev.bind (mtx_ev (b + 2 * j) (by omega)) (by
        simp only [if_true]
        exact Ev.bind (mtx_ev (b + 2 * j + 1) (by omega)) (by simpa using ih (j + 1) (by omega))))
    simp only [laws_heldEntryS.l0]
    rw [if_pos (by omega), if_pos (by omega), rd45j l j hlt, he]
    refine congrArg _ (funext fun t => ?_)
    rw [w64 (x := ((b + 2 * j : Nat) : Int) + 1) (by omega) (by omega), show (((b + 2 * j : Nat) : Int) + 1) = ((b + 2 * j + 1 : Nat) : Int) by omega, w64 (x := ((b + 2 * j + 1 : Nat) : Int) + 1) (by omega) (by omega), show (((b + 2 * j + 1 : Nat) : Int) + 1) = ((b + 2 * (j + 1) : Nat) : Int) by omega, wj (j := j) (n := l.length) hlt (by omega)]
theorem heldES_ev (l : List S45) (c : Nat) (hn : l.length ≤ 1048576) (hc : c ≤ 8388608) (hl : ∀ i, i < l.length → l[i]? = some ⟨mtx (c + 2 * i), mtx (c + 2 * i + 1)⟩) : Ev (fun k => laws_heldEntryS.f k l (c : Int)) ((c + 2 * l.length : Nat) : Int) :=
  heldES_l l hn c hc hl l.length 0 (by omega)

def keyE (x : S45) : List UInt8 := x.f0.toList
def entryB (x : S45) : Bool := decide ((1 : Int) ≤ (x.f0.size : Int) ∧ (x.f0.size : Int) ≤ 20 ∧ (x.f1.size : Int) ≤ 60)
theorem spec_entry (x : S45) : spec_l12Entry.f x.f0 x.f1 = some (entryB x) := by
  have e : spec_l12Entry.f x.f0 x.f1 = if (x.f0.size : Int) ≥ 1 then (if decide ((x.f0.size : Int) ≤ 20) = true then some (decide ((x.f1.size : Int) ≤ 60)) else some false) else some false := by
    unfold spec_l12Entry.f spec_l1In.f
    split <;> rfl
  rw [e]; unfold entryB
  by_cases h1 : (x.f0.size : Int) ≥ 1
  · by_cases h2 : (x.f0.size : Int) ≤ 20
    · rw [if_pos h1, if_pos (decide_eq_true h2)]; exact congrArg some (decide_eq_decide.2 ⟨fun h => ⟨h1, h2, h⟩, fun h => h.2.2⟩)
    · rw [if_pos h1, if_neg (by simpa using h2), decide_eq_false (fun h => h2 h.2.1)]
  · rw [if_neg h1, decide_eq_false (fun h => h1 h.1)]
theorem impl_entry (x : S45) : impl_isEntry.f x.f0 x.f1 = some (entryB x) := by
  have e : impl_isEntry.f x.f0 x.f1 = if (1 : Int) ≤ (x.f0.size : Int) then (if decide ((x.f0.size : Int) ≤ 20) = true then some (decide ((x.f1.size : Int) ≤ 60)) else some false) else some false := by
    unfold impl_isEntry.f impl_isKey.f impl_within.f
    split <;> rfl
  rw [e]; unfold entryB
  by_cases h1 : (1 : Int) ≤ (x.f0.size : Int)
  · by_cases h2 : (x.f0.size : Int) ≤ 20
    · rw [if_pos h1, if_pos (decide_eq_true h2)]; exact congrArg some (decide_eq_decide.2 ⟨fun h => ⟨h1, h2, h⟩, fun h => h.2.2⟩)
    · rw [if_pos h1, if_neg (by simpa using h2), decide_eq_false (fun h => h2 h.2.1)]
  · rw [if_neg h1, decide_eq_false (fun h => h1 h.1)]
def roomB (n : Int) : Bool := decide (100 ≤ n ∧ n ≤ 2000)
theorem spec_room (n : Int) : spec_l12Room.f n = some (roomB n) := by
  have e : spec_l12Room.f n = if n ≥ 100 then some (decide (n ≤ 2000)) else some false := by
    unfold spec_l12Room.f spec_l1In.f
    split <;> rfl
  rw [e]; unfold roomB
  by_cases h1 : n ≥ 100
  · rw [if_pos h1]; exact congrArg some (decide_eq_decide.2 ⟨fun h => ⟨h1, h⟩, fun h => h.2⟩)
  · rw [if_neg h1, decide_eq_false (fun h => h1 h.1)]
theorem impl_room (n : Int) : impl_isRoom.f n = some (roomB n) := by
  have e : impl_isRoom.f n = if (100 : Int) ≤ n then some (decide (n ≤ 2000)) else some false := by
    unfold impl_isRoom.f impl_within.f
    split <;> rfl
  rw [e]; unfold roomB
  by_cases h1 : (100 : Int) ≤ n
  · rw [if_pos h1]; exact congrArg some (decide_eq_decide.2 ⟨fun h => ⟨h1, h⟩, fun h => h.2⟩)
  · rw [if_neg h1, decide_eq_false (fun h => h1 h.1)]
theorem At_l (l : List S45) (a : ByteArray) (hn : l.length ≤ 1048576) (d : Nat) : ∀ (j : Nat), j + d = l.length →
    Ev (fun k => spec_l12At.l0 k a l (l.length : Int) (j : Int)) (fndE a (l.drop j) (j : Int)) := by
  induction d with
  | zero =>
    intro j hj
    rw [List.drop_of_length_le (by omega)]
    refine Ev.step (f := fun _ => some (-1)) (fun k => ?_) (Ev.now _)
    simp only [spec_l12At.l0]; rw [if_neg (by omega)]
  | succ d ih =>
    intro j hj
    have hlt : j < l.length := by omega
    rw [List.drop_eq_getElem_cons hlt]
    by_cases c : l[j].f0.toList = a.toList
    · refine Ev.step (f := fun _ => some (j : Int)) (fun k => ?_) (by simp only [fndE]; rw [if_pos (by simpa using c)]; exact Ev.now _)
      simp only [spec_l12At.l0]
      rw [if_pos (by omega), if_pos (by omega), if_pos (by omega), rd45j l j hlt, if_pos c]
    · refine Ev.step (fun k => ?_) (by simp only [fndE]; rw [if_neg (by simpa using c)]; exact ih (j + 1) (by omega))
      simp only [spec_l12At.l0]
      rw [if_pos (by omega), if_pos (by omega), if_pos (by omega), rd45j l j hlt, if_neg c, wj (n := l.length) hlt (by omega)]
theorem At_ev (l : List S45) (a : ByteArray) (hn : l.length ≤ 1048576) : Ev (fun k => spec_l12At.f k l a) (fndE a l 0) :=
  At_l l a hn l.length 0 (by omega)
theorem fnd_has (a : ByteArray) : ∀ (l : List S45) (i : Int), 0 ≤ i → (fndE a l i ≥ 0 ↔ a.toList ∈ l.map keyE)
  | [], i, hi => by simp [fndE]
  | x :: xs, i, hi => by
    simp only [fndE, List.map_cons, List.mem_cons]
    by_cases c : x.f0.toList = a.toList
    · rw [if_pos (by simpa using c)]
      exact ⟨fun _ => .inl c.symm, fun _ => hi⟩
    · rw [if_neg (by simpa using c), fnd_has a xs (i + 1) (by omega)]
      exact ⟨.inr, fun h => h.resolve_left (fun e => c e.symm)⟩
def wgt : Int → List S45 → Int
  | c, [] => c
  | c, x :: xs => wgt (wrap64 (c + wrap64 ((x.f0.size : Int) + (x.f1.size : Int)))) xs
theorem spec_weight_l (l : List S45) (hn : l.length ≤ 1048576) (d : Nat) : ∀ (j : Nat) (c : Int), j + d = l.length →
    Ev (fun k => spec_l12Weight.l0 k c l (l.length : Int) (j : Int)) (wgt c (l.drop j)) := by
  induction d with
  | zero =>
    intro j c hj
    rw [List.drop_of_length_le (by omega)]
    refine Ev.step (f := fun _ => some c) (fun k => ?_) (Ev.now _)
    simp only [spec_l12Weight.l0]; rw [if_neg (by omega)]
  | succ d ih =>
    intro j c hj
    have hlt : j < l.length := by omega
    rw [List.drop_eq_getElem_cons hlt]
    refine Ev.step (fun k => ?_) (ih (j + 1) _ (by omega))
    simp only [spec_l12Weight.l0]
    rw [if_pos (by omega), if_pos (by omega), if_pos (by omega), rd45j l j hlt, wj (n := l.length) hlt (by omega)]
theorem impl_weight_l (l : List S45) (hn : l.length ≤ 1048576) (d : Nat) : ∀ (j : Nat) (c : Int), j + d = l.length →
    Ev (fun k => impl_weight.l0 k c l (l.length : Int) (j : Int)) (wgt c (l.drop j)) := by
  induction d with
  | zero =>
    intro j c hj
    rw [List.drop_of_length_le (by omega)]
    refine Ev.step (f := fun _ => some c) (fun k => ?_) (Ev.now _)
    simp only [impl_weight.l0]; rw [if_neg (by omega)]
  | succ d ih =>
    intro j c hj
    have hlt : j < l.length := by omega
    rw [List.drop_eq_getElem_cons hlt]
    refine Ev.step (fun k => ?_) (ih (j + 1) _ (by omega))
    simp only [impl_weight.l0]
    rw [if_pos (by omega), if_pos (by omega), if_pos (by omega), rd45j l j hlt, wj (n := l.length) hlt (by omega)]
def PartP (l : List S45) (n : Int) : Prop := (∀ x ∈ l, entryB x = true) ∧ (l.map keyE).Nodup ∧ (l.length : Int) ≤ 60 ∧ wgt 0 l ≤ n
theorem take_has {l : List S45} {j : Nat} (hlt : j < l.length) (h : keyE l[j] ∈ (l.take j).map keyE) : ¬ (l.map keyE).Nodup := by
  intro hnd
  have e : l.map keyE = (l.take j).map keyE ++ (l.drop j).map keyE := by rw [← List.map_append, List.take_append_drop]
  rw [e, List.nodup_append] at hnd
  exact hnd.2.2 _ h _ (List.mem_map_of_mem (by rw [List.drop_eq_getElem_cons hlt]; exact List.mem_cons_self)) rfl
theorem Part_l (l : List S45) (n : Int) (hn : l.length ≤ 1048576) (d : Nat) : ∀ (j : Nat), j + d = l.length → (∀ x ∈ l.take j, entryB x = true) → ((l.take j).map keyE).Nodup →
    ∃ b, Ev (fun k => spec_l12Part.l0 k l n l (l.length : Int) (j : Int)) b ∧ (b = true ↔ PartP l n) := by
  induction d with
  | zero =>
    intro j hj h1 h2
    rw [List.take_of_length_le (by omega)] at h1 h2
    by_cases hl : (l.length : Int) ≤ 60
    · refine ⟨decide (wgt 0 l ≤ n), Ev.step (f := fun k => (spec_l12Weight.f k l).bind fun t => some (decide (t ≤ n))) (fun k => ?_) (Ev.bind (spec_weight_l l hn l.length 0 0 (by omega)) (Ev.now _)), ?_⟩
      · simp only [spec_l12Part.l0]; rw [if_neg (by omega), if_pos hl]
      · rw [decide_eq_true_eq]
        exact ⟨fun h => ⟨h1, h2, hl, h⟩, fun h => h.2.2.2⟩
    · refine ⟨false, Ev.step (f := fun _ => some false) (fun k => ?_) (Ev.now _), ?_⟩
      · simp only [spec_l12Part.l0]; rw [if_neg (by omega), if_neg hl]
      · exact ⟨fun h => (by cases h), fun h => absurd h.2.2.1 hl⟩
  | succ d ih =>
    intro j hj h1 h2
    have hlt : j < l.length := by omega
    have hstep : ∀ k, spec_l12Part.l0 (k + 1) l n l (l.length : Int) (j : Int) = if entryB l[j] = true then ((spec_l12At.f k (l.take j) l[j].f0).bind fun t => if t ≥ 0 then some false else spec_l12Part.l0 k l n l (l.length : Int) ((j + 1 : Nat) : Int)) else some false := fun k => by
      simp only [spec_l12Part.l0]
      rw [if_pos (by omega), if_pos (by omega), if_pos (by omega), rd45j l j hlt, spec_entry, if_pos (show (j : Int) ≤ (l.length : Int) by omega), wj (n := l.length) hlt (by omega)]
      rfl
    by_cases c : entryB l[j] = true
    · have hat := At_ev (l.take j) l[j].f0 (by simp; omega)
      by_cases c2 : fndE l[j].f0 (l.take j) 0 ≥ 0
      · refine ⟨false, Ev.step (fun k => by rw [hstep, if_pos c]) (Ev.bind hat (Ev.congr (f := fun _ => some false) (fun k => by rw [if_pos c2]) (Ev.now _))), ?_⟩
        exact ⟨fun h => (by cases h), fun h => absurd h.2.1 (take_has hlt ((fnd_has _ _ 0 (by omega)).1 c2))⟩
      · obtain ⟨b, e1, e2⟩ := ih (j + 1) (by omega) (fun x hx => by
          rw [List.take_succ_eq_append_getElem hlt, List.mem_append] at hx
          rcases hx with hx | hx
          · exact h1 x hx
          · rw [List.mem_singleton.1 hx]; exact c) (by
          rw [List.take_succ_eq_append_getElem hlt, List.map_append, List.nodup_append]
          refine ⟨h2, by simp, fun a ha b hb e => ?_⟩
          simp only [List.map_cons, List.map_nil, List.mem_singleton] at hb
          subst e
          rw [hb] at ha
          exact c2 ((fnd_has _ _ 0 (by omega)).2 ha))
        exact ⟨b, Ev.step (fun k => by rw [hstep, if_pos c]) (Ev.bind hat (Ev.congr (fun k => by rw [if_neg c2]) e1)), e2⟩
    · refine ⟨false, Ev.step (f := fun _ => some false) (fun k => by rw [hstep, if_neg c]) (Ev.now _), ?_⟩
      exact ⟨fun h => (by cases h), fun h => absurd (h.1 _ (List.getElem_mem hlt)) c⟩
theorem Part_ev (l : List S45) (n : Int) (hn : l.length ≤ 1048576) : ∃ b, Ev (fun k => spec_l12Part.f k l n) b ∧ (b = true ↔ PartP l n) :=
  Part_l l n hn l.length 0 (by omega) (by simp) (by simp)
def GoodP (n o : Int) (t s : List S45) : Prop := roomB n = true ∧ roomB o = true ∧ PartP t n ∧ PartP s o ∧ ∀ x ∈ s, keyE x ∉ t.map keyE
theorem Good_l (n o : Int) (t s : List S45) (ht : t.length ≤ 1048576) (hs : s.length ≤ 1048576) (d : Nat) : ∀ (j : Nat), j + d = s.length → (∀ x ∈ s.take j, keyE x ∉ t.map keyE) →
    ∃ b, Ev (fun k => spec_GoodSegmented.l0 k s (s.length : Int) (j : Int) n o t s) b ∧ (b = true ↔ GoodP n o t s) := by
  induction d with
  | zero =>
    intro j hj h1
    rw [List.take_of_length_le (by omega)] at h1
    have hstep : ∀ k, spec_GoodSegmented.l0 (k + 1) s (s.length : Int) (j : Int) n o t s = if roomB n = true then (if roomB o = true then ((spec_l12Part.f k t n).bind fun t129 => (if t129 = true then ((spec_l12Part.f k s o).bind fun t130 => (some t130)) else (some false))) else some false) else some false := fun k => by
      simp only [spec_GoodSegmented.l0]
      rw [if_neg (by omega), spec_room, spec_room]
      rfl
    by_cases c1 : roomB n = true
    · by_cases c2 : roomB o = true
      · obtain ⟨b, e1, e2⟩ := Part_ev t n ht
        obtain ⟨b', e3, e4⟩ := Part_ev s o hs
        cases b with
        | false =>
          refine ⟨false, Ev.step (fun k => by rw [hstep, if_pos c1, if_pos c2]) (Ev.bind e1 (Ev.congr (f := fun _ => some false) (fun k => by rw [if_neg (by simp)]) (Ev.now _))), ?_⟩
          exact ⟨fun h => (by cases h), fun h => e2.2 h.2.2.1⟩
        | true =>
          refine ⟨b', Ev.step (fun k => by rw [hstep, if_pos c1, if_pos c2]) (Ev.bind e1 (Ev.congr (fun k => by rw [if_pos rfl]) (Ev.bind e3 (Ev.now _)))), ?_⟩
          exact ⟨fun h => ⟨c1, c2, e2.1 rfl, e4.1 h, h1⟩, fun h => e4.2 h.2.2.2.1⟩
      · refine ⟨false, Ev.step (f := fun _ => some false) (fun k => by rw [hstep, if_pos c1, if_neg c2]) (Ev.now _), ?_⟩
        exact ⟨fun h => (by cases h), fun h => absurd h.2.1 c2⟩
    · refine ⟨false, Ev.step (f := fun _ => some false) (fun k => by rw [hstep, if_neg c1]) (Ev.now _), ?_⟩
      exact ⟨fun h => (by cases h), fun h => absurd h.1 c1⟩
  | succ d ih =>
    intro j hj h1
    have hlt : j < s.length := by omega
    have hstep : ∀ k, spec_GoodSegmented.l0 (k + 1) s (s.length : Int) (j : Int) n o t s = (spec_l12At.f k t s[j].f0).bind fun u => if u ≥ 0 then some false else spec_GoodSegmented.l0 k s (s.length : Int) ((j + 1 : Nat) : Int) n o t s := fun k => by
      simp only [spec_GoodSegmented.l0]
      rw [if_pos (by omega), if_pos (by omega), if_pos (by omega), rd45j s j hlt, wj (n := s.length) hlt (by omega)]
    have hat := At_ev t s[j].f0 ht
    by_cases c2 : fndE s[j].f0 t 0 ≥ 0
    · refine ⟨false, Ev.step hstep (Ev.bind hat (Ev.congr (f := fun _ => some false) (fun k => by rw [if_pos c2]) (Ev.now _))), ?_⟩
      exact ⟨fun h => (by cases h), fun h => absurd ((fnd_has _ _ 0 (by omega)).1 c2) (h.2.2.2.2 _ (List.getElem_mem hlt))⟩
    · obtain ⟨b, e1, e2⟩ := ih (j + 1) (by omega) (fun x hx => by
        rw [List.take_succ_eq_append_getElem hlt, List.mem_append] at hx
        rcases hx with hx | hx
        · exact h1 x hx
        · rw [List.mem_singleton.1 hx]; exact fun hm => c2 ((fnd_has _ _ 0 (by omega)).2 hm))
      exact ⟨b, Ev.step hstep (Ev.bind hat (Ev.congr (fun k => by rw [if_neg c2]) e1)), e2⟩
theorem uniqE_iff : ∀ (l : List S45) (seen : List (List UInt8)), uniqE seen l = true ↔ (l.map keyE).Nodup ∧ ∀ x ∈ l, keyE x ∉ seen
  | [], seen => by simp [uniqE]
  | x :: xs, seen => by
    have e : x.f0.data.toList = keyE x := (ByteArray.toList_eq _).symm
    simp only [uniqE, e, List.map_cons, List.nodup_cons, List.mem_cons, forall_eq_or_imp]
    by_cases c : keyE x ∈ seen
    · rw [if_pos (by simpa using c)]
      exact ⟨fun h => (by cases h), fun h => absurd c h.2.1⟩
    · rw [if_neg (by simpa using c), uniqE_iff xs]
      constructor
      · rintro ⟨h1, h2⟩
        refine ⟨⟨fun hm => ?_, h1⟩, c, fun y hy hm => h2 y hy (List.mem_cons_of_mem _ hm)⟩
        obtain ⟨y, hy, e⟩ := List.mem_map.1 hm
        exact h2 y hy (e ▸ List.mem_cons_self)
      · rintro ⟨⟨h1, h2⟩, _, h4⟩
        refine ⟨h2, fun y hy hm => ?_⟩
        rcases List.mem_cons.1 hm with h | h
        · exact h1 (h ▸ List.mem_map_of_mem hy)
        · exact h4 y hy h
theorem allE_iff : ∀ l : List S45, ∃ b, allE l = some b ∧ (b = true ↔ ∀ x ∈ l, entryB x = true)
  | [] => ⟨true, rfl, by simp⟩
  | x :: xs => by
    obtain ⟨b, h1, h2⟩ := allE_iff xs
    have e : allE (x :: xs) = if entryB x = true then allE xs else some false := by
      show (impl_isEntry.f x.f0 x.f1).bind _ = _
      rw [impl_entry]; rfl
    by_cases c : entryB x = true
    · exact ⟨b, by rw [e, if_pos c, h1], by rw [h2]; simp [c]⟩
    · exact ⟨false, by rw [e, if_neg c], by simp [c]⟩
theorem fits_ev (l : List S45) (n : Int) (hn : l.length ≤ 1048576) : ∃ b, Ev (fun k => impl_fits.f k l n) b ∧ (b = true ↔ (l.length : Int) ≤ 60 ∧ wgt 0 l ≤ n) := by
  by_cases hl : (l.length : Int) ≤ 60
  · refine ⟨decide (wgt 0 l ≤ n), Ev.congr (f := fun k => (impl_weight.f k l).bind fun t => some (decide (t ≤ n))) (fun k => by unfold impl_fits.f; rw [if_pos hl]) (Ev.bind (impl_weight_l l hn l.length 0 0 (by omega)) (Ev.now _)), ?_⟩
    rw [decide_eq_true_eq]
    exact ⟨fun h => ⟨hl, h⟩, fun h => h.2⟩
  · exact ⟨false, Ev.congr (f := fun _ => some false) (fun k => by unfold impl_fits.f; rw [if_neg hl]) (Ev.now _), ⟨fun h => (by cases h), fun h => absurd h.1 hl⟩⟩
theorem Good_impl (n o : Int) (t s : List S45) (ht : t.length ≤ 1048576) (hs : s.length ≤ 1048576) (hz : ∀ x ∈ t ++ s, x.f0.size ≤ 1048576) :
    ∃ b, Ev (fun k => impl_GoodSegmented.f k n o t s) b ∧ (b = true ↔ GoodP n o t s) := by
  have no : ∀ {g : Nat → Option Bool}, (∀ k, g k = some false) → ¬ GoodP n o t s → ∃ b, Ev g b ∧ (b = true ↔ GoodP n o t s) := fun hg hn => ⟨false, Ev.congr (f := fun _ => some false) hg (Ev.now _), ⟨fun h => (by cases h), fun h => absurd h hn⟩⟩
  have bd : ∀ {α : Type} {f : Nat → Option α} {a : α} {g : Nat → α → Option Bool}, Ev f a → (∃ b, Ev (fun k => g k a) b ∧ (b = true ↔ GoodP n o t s)) → ∃ b, Ev (fun k => (f k).bind (g k)) b ∧ (b = true ↔ GoodP n o t s) := fun h ⟨b, h1, h2⟩ => ⟨b, Ev.bind h h1, h2⟩
  unfold impl_GoodSegmented.f
  rw [impl_room, impl_room]
  refine bd (Ev.now _) ?_
  by_cases c1 : roomB n = true
  rotate_left
  · exact no (fun k => by rw [if_neg c1]) (fun h => c1 h.1)
  simp only [if_pos c1]
  refine bd (Ev.now _) ?_
  by_cases c2 : roomB o = true
  rotate_left
  · exact no (fun k => by rw [if_neg c2]) (fun h => c2 h.2.1)
  simp only [if_pos c2]
  obtain ⟨b3, e3, f3⟩ := fits_ev t n ht
  refine bd e3 ?_
  by_cases c3 : b3 = true
  rotate_left
  · exact no (fun k => by rw [if_neg c3]) (fun h => c3 (f3.2 h.2.2.1.2.2))
  simp only [if_pos c3]
  obtain ⟨b4, e4, f4⟩ := fits_ev s o hs
  refine bd e4 ?_
  by_cases c4 : b4 = true
  rotate_left
  · exact no (fun k => by rw [if_neg c4]) (fun h => c4 (f4.2 h.2.2.2.1.2.2))
  simp only [if_pos c4]
  obtain ⟨b5, e5, f5⟩ := allE_iff t
  rw [e5]
  refine bd (Ev.now _) ?_
  by_cases c5 : b5 = true
  rotate_left
  · exact no (fun k => by rw [if_neg c5]) (fun h => c5 (f5.2 h.2.2.1.1))
  simp only [if_pos c5]
  obtain ⟨b6, e6, f6⟩ := allE_iff s
  rw [e6]
  refine bd (Ev.now _) ?_
  by_cases c6 : b6 = true
  rotate_left
  · exact no (fun k => by rw [if_neg c6]) (fun h => c6 (f6.2 h.2.2.2.1.1))
  simp only [if_pos c6]
  have ec : slices_ConcatE.f [t, s] = some (t ++ s) := by
    unfold slices_ConcatE.f
    have e : [t, s].flatten = t ++ s := by simp
    rw [e, if_pos (by rw [List.length_append]; omega)]
  rw [ec]
  refine bd (Ev.now _) ?_
  have ez : ((t ++ s).all fun x => decide (x.f0.size ≤ 9223372036854775807)) = true := by
    rw [List.all_eq_true]; intro x hx
    have := hz x hx
    simp only [decide_eq_true_eq]; omega
  simp only [ez, if_true]
  refine ⟨_, Ev.now _, ?_⟩
  rw [uniqE_iff, List.map_append, List.nodup_append]
  obtain ⟨l3, w3⟩ := f3.1 c3
  obtain ⟨l4, w4⟩ := f4.1 c4
  constructor
  · rintro ⟨⟨h1, h2, h3⟩, _⟩
    exact ⟨c1, c2, ⟨f5.1 c5, h1, l3, w3⟩, ⟨f6.1 c6, h2, l4, w4⟩, fun x hx hm => h3 _ hm _ (List.mem_map_of_mem hx) rfl⟩
  · rintro ⟨_, _, h3, h4, h5⟩
    refine ⟨⟨h3.2.1, h4.2.1, fun a ha b hb e => ?_⟩, fun x hx => by simp⟩
    obtain ⟨x, hx, rfl⟩ := List.mem_map.1 hb
    exact h5 x hx (e ▸ ha)
theorem Own_spec (n o : Int) (t s : List S45) (ht : t.length ≤ 1048576) (hs : s.length ≤ 1048576) : spec_l12Own.f n o t s = some (n, o, t, s) := by
  unfold spec_l12Own.f
  simp only [Option.bind_some, List.length_nil, Nat.zero_add, List.nil_append]
  rw [if_pos (by omega), if_pos (by omega)]
theorem Own_impl (n o : Int) (t s : List S45) (ht : t.length ≤ 1048576) (hs : s.length ≤ 1048576) : impl_Segmented_own.f n o t s = some (n, o, t, s) := by
  unfold impl_Segmented_own.f slices_CloneE.f
  rw [if_pos (by omega), if_pos (by omega)]
  rfl
theorem Without_eq (l : List S45) (j : Nat) (hj : j < l.length) (hn : l.length ≤ 1048576) : spec_l12Without.f l (j : Int) = some (l.eraseIdx j) := by
  unfold spec_l12Without.f
  simp only [Option.bind_some, List.length_nil, Nat.zero_add, List.nil_append, wj (n := l.length) hj (by omega), Int.toNat_natCast]
  rw [if_pos (by omega), if_pos (by omega), if_pos (by simp; omega), if_pos (by omega), if_pos (by omega), if_pos (by simp; omega), List.eraseIdx_eq_take_drop_succ]
theorem eqSeg_ev (n o : Int) (t s : List S45) (ht : t.length ≤ 1048576) (hs : s.length ≤ 1048576) : Ev (fun k => laws_eqSegmented.f k n o t s n o t s) true := by
  unfold laws_eqSegmented.f
  simp only [if_true]
  refine Ev.bind (eqES_ev t ht) ?_
  simp only [if_true]
  refine Ev.bind (eqES_ev s hs) ?_
  simp only [if_true]
  exact Ev.now _
theorem toSeg_ev (n o : Int) (t s : List S49) (ht : t.length ≤ 1048576) (hs : s.length ≤ 1048576) : Ev (fun k => laws_toSegmented.f k n o t s) (n, o, t.map cv, s.map cv) := by
  unfold laws_toSegmented.f
  exact Ev.bind (toES_ev t ht) (Ev.bind (toES_ev s hs) (Ev.now _))
theorem markSeg_ev (n o : Int) (t s : List S45) (ht : t.length ≤ 1048576) (hs : s.length ≤ 1048576) : ∃ t' s', Ev (fun k => laws_markSegmented.f k n o t s 1) (((1 + 2 * t.length + 2 * s.length : Nat) : Int), t', s') ∧ ∀ n o, Ev (fun k => laws_heldSegmented.f k n o t' s' 1) ((1 + 2 * t.length + 2 * s.length : Nat) : Int) := by
  obtain ⟨t', h1, h2, h3⟩ := markES_ev t 1 ht (by omega)
  obtain ⟨s', h4, h5, h6⟩ := markES_ev s (1 + 2 * t.length) hs (by omega)
  refine ⟨t', s', ?_, fun n o => ?_⟩
  · unfold laws_markSegmented.f
    exact Ev.bind h1 (Ev.bind h4 (Ev.now _))
  · have h7 := heldES_ev t' 1 (by omega) (by omega) (fun i hi => h3 i (by omega))
    have h8 := heldES_ev s' (1 + 2 * t.length) (by omega) (by omega) (fun i hi => h6 i (by omega))
    rw [h2] at h7
    rw [h5] at h8
    unfold laws_heldSegmented.f
    refine Ev.bind h7 ?_
    simp only [if_neg (show ¬ (((1 + 2 * t.length : Nat) : Int) < 0) by omega)]
    refine Ev.bind h8 ?_
    simp only [if_neg (show ¬ (((1 + 2 * t.length + 2 * s.length : Nat) : Int) < 0) by omega)]
    exact Ev.now _
theorem szSeg_ev (n o : Int) (t s : List S49) (ht : t.length * 32 ≤ 140737488351232 ∧ ∀ x ∈ t, wf49 x) (hs : s.length * 32 ≤ 140737488351232 ∧ ∀ x ∈ s, wf49 x) :
    ∃ r, Ev (fun k => laws_szSegmented.f k n o t s 1048576) r ∧ (0 ≤ r → (t.length ≤ 1048576 ∧ ∀ x ∈ t, x.f0.size ≤ 1048576 ∧ x.f1.size ≤ 1048576) ∧ (s.length ≤ 1048576 ∧ ∀ x ∈ s, x.f0.size ≤ 1048576 ∧ x.f1.size ≤ 1048576)) := by
  obtain ⟨r, h1, h2⟩ := szS_ev t ht 1048576 (by omega) (by omega)
  by_cases c : r < 0
  · refine ⟨-1, ?_, fun h => by omega⟩
    unfold laws_szSegmented.f
    refine Ev.bind h1 ?_
    simp only [if_pos c]
    exact Ev.now _
  · obtain ⟨h3, h4⟩ := h2 (by omega)
    obtain ⟨r', h5, h6⟩ := szS_ev s hs r (by omega) h3
    by_cases c' : r' < 0
    · refine ⟨-1, ?_, fun h => by omega⟩
      unfold laws_szSegmented.f
      refine Ev.bind h1 ?_
      simp only [if_neg c]
      refine Ev.bind h5 ?_
      simp only [if_pos c']
      exact Ev.now _
    · refine ⟨r', ?_, fun h => ⟨h4, (h6 h).2⟩⟩
      unfold laws_szSegmented.f
      refine Ev.bind h1 ?_
      simp only [if_neg c]
      refine Ev.bind h5 ?_
      simp only [if_neg c']
      exact Ev.now _

theorem ahead_spec (l : List S45) (a b : ByteArray) (h : l.length ≤ 1048576) : spec_l12Ahead.f l a b = some (⟨a, b⟩ :: l) := by
  unfold spec_l12Ahead.f
  simp only [Option.bind_some]
  rw [if_pos (by simp; omega)]; rfl
theorem ahead_impl (l : List S45) (a b : ByteArray) (h : l.length ≤ 1048576) : impl_ahead.f l a b = some (⟨a, b⟩ :: l) := by
  unfold impl_ahead.f
  rw [if_pos (by omega)]
def fitsP (l : List S45) (n : Int) : Prop := (l.length : Int) ≤ 60 ∧ wgt 0 l ≤ n
theorem take_last (s : List S45) (m : Nat) (hs : s.length = m + 1) : s = s.take m ++ [s[m]'(by omega)] := by
  have h := List.take_succ_eq_append_getElem (show m < s.length by omega)
  rw [← h, List.take_of_length_le (by omega)]
theorem fit0 (n o : Int) (ho : 0 ≤ o) : ∀ (m : Nat) (s t : List S45), s.length = m → t.length + s.length ≤ 1000 →
    ∃ t' s' r, Ev (fun k => settleE.l0 k o t s) (t', s') ∧ (∀ R, Ev (fun k => spec_l12Fit.j1 k n o t' s') R → Ev (fun k => spec_l12Fit.l0 k (s.length : Int) n o t s) R) ∧ t' = r ++ t ∧ s = s' ++ r ∧ fitsP s' o ∧ (∀ p, p <+: s → fitsP p o → p <+: s')
  | 0, s, t, hs, hl => by
    have e : s = [] := List.eq_nil_of_length_eq_zero hs
    subst e
    obtain ⟨b, f1, f2⟩ := fits_ev ([] : List S45) o (by simp)
    have hb : b = true := f2.2 ⟨by simp, ho⟩
    subst hb
    refine ⟨t, [], [], Ev.step (fun k => by simp only [settleE.l0] <;> rfl) (Ev.bind f1 ?_), fun R hR => Ev.step (fun k => ?_) hR, rfl, rfl, ⟨by simp, ho⟩, fun p hp _ => hp⟩
    · simp only [if_true]; exact Ev.now _
    · simp only [spec_l12Fit.l0]; rw [if_neg (by simp)]
  | m + 1, s, t, hs, hl => by
    obtain ⟨b, f1, f2⟩ := fits_ev s o (by omega)
    have hw := spec_weight_l s (by omega) s.length 0 0 (by omega)
    have hm : m < s.length := by omega
    have er : rd_T45 s ((s.length : Int) - 1) = s[m] := by rw [show (s.length : Int) - 1 = (m : Int) by omega]; exact rd45j s m hm
    have er2 : wrap64 ((s.length : Int) - 1) = (m : Int) := by rw [w64 (by omega) (by omega)]; omega
    have em : s.length - 1 = m := by omega
    have hX : ∀ k, (if 0 ≤ (m : Int) then (if (m : Int) < (s.length : Int) then ((spec_l12Ahead.f t ((rd_T45 s (m : Int)).f0) ((rd_T45 s (m : Int)).f1)).bind fun t219 => (if (m : Int) ≤ (s.length : Int) then (spec_l12Fit.l0 k (m : Int) n o t219 (s.take ((m : Int)).toNat)) else (none))) else (none)) else (none)) = spec_l12Fit.l0 k (m : Int) n o (⟨s[m].f0, s[m].f1⟩ :: t) (s.take m) := fun k => by
      rw [if_pos (by omega), if_pos (by omega), rd45j s m hm, ahead_spec _ _ _ (by omega)]
      simp only [Option.bind_some]
      rw [if_pos (by omega), Int.toNat_natCast]
    have hstep : ∀ k, spec_l12Fit.l0 (k + 1) (s.length : Int) n o t s = if (s.length : Int) > 60 then spec_l12Fit.l0 k (m : Int) n o (⟨s[m].f0, s[m].f1⟩ :: t) (s.take m) else ((spec_l12Weight.f k s).bind fun t246 => if t246 > o then spec_l12Fit.l0 k (m : Int) n o (⟨s[m].f0, s[m].f1⟩ :: t) (s.take m) else spec_l12Fit.j1 k n o t s) := fun k => by
      simp only [spec_l12Fit.l0, er2]
      rw [if_pos (by omega), hX]
    by_cases hb : b = true
    · subst hb
      obtain ⟨h60, hwo⟩ := f2.1 rfl
      refine ⟨t, s, [], Ev.step (fun k => by simp only [settleE.l0] <;> rfl) (Ev.bind f1 ?_), fun R hR => Ev.step (fun k => by rw [hstep, if_neg (by omega)] <;> rfl) (Ev.bind hw ?_), rfl, by simp, ⟨h60, hwo⟩, fun p hp _ => hp⟩
      · simp only [if_true]; exact Ev.now _
      · rw [List.drop_zero]
        simp only [if_neg (show ¬ wgt 0 s > o by omega)]; exact hR
    · obtain ⟨t', s', r, g1, g2, g3, g4, g5, g6⟩ := fit0 n o ho m (s.take m) (⟨s[m].f0, s[m].f1⟩ :: t) (by simp; omega) (by simp; omega)
      have elen : ((s.take m).length : Int) = (m : Int) := by simp; omega
      rw [elen] at g2
      refine ⟨t', s', r ++ [s[m]], Ev.step (fun k => by simp only [settleE.l0] <;> rfl) (Ev.bind f1 ?_), fun R hR => ?_, by rw [g3]; simp, by rw [← List.append_assoc, ← g4]; exact take_last s m hs, g5, fun p hp hf => g6 p (List.prefix_take_iff.2 ⟨hp, ?_⟩) hf⟩
      rotate_left
      rotate_left
      · have h1 := hp.length_le
        by_cases c : p.length = s.length
        · rw [hp.eq_of_length c] at hf
          exact absurd (f2.2 hf) hb
        · omega
      · simp only [if_neg hb]
        refine Ev.congr (fun k => ?_) g1
        rw [if_pos (by omega), er, ahead_impl _ _ _ (by omega), em]
        rfl
      · have go := g2 R hR
        by_cases c60 : (s.length : Int) > 60
        · exact Ev.step (fun k => by rw [hstep, if_pos c60]) go
        · have hwo : wgt 0 s > o := by
            have : ¬ ((s.length : Int) ≤ 60 ∧ wgt 0 s ≤ o) := fun h => hb (f2.2 h)
            omega
          refine Ev.step (fun k => by rw [hstep, if_neg c60] <;> rfl) (Ev.bind hw ?_)
          rw [List.drop_zero]
          simp only [if_pos hwo]; exact go
theorem fit1 (n o : Int) (hn : 0 ≤ n) (s : List S45) (hs : s.length ≤ 1000) : ∀ (m : Nat) (t th : List S45), t.length = m → th.length + t.length ≤ 1000 →
    ∃ t' th' r, Ev (fun k => settleE.l1 k n t th) (t', th') ∧ Ev (fun k => spec_l12Fit.l1 k th (t.length : Int) n o t s) (n, o, t', s, th') ∧ t = t' ++ r ∧ th' = th ++ r.reverse ∧ fitsP t' n ∧ (∀ p, p <+: t → fitsP p n → p <+: t')
  | 0, t, th, ht, hl => by
    have e : t = [] := List.eq_nil_of_length_eq_zero ht
    subst e
    obtain ⟨b, f1, f2⟩ := fits_ev ([] : List S45) n (by simp)
    have hb : b = true := f2.2 ⟨by simp, hn⟩
    subst hb
    refine ⟨[], th, [], Ev.step (fun k => by simp only [settleE.l1] <;> rfl) (Ev.bind f1 ?_), Ev.step (f := fun _ => some (n, o, [], s, th)) (fun k => ?_) (Ev.now _), rfl, by simp, ⟨by simp, hn⟩, fun p hp _ => hp⟩
    · simp only [if_true]; exact Ev.now _
    · simp only [spec_l12Fit.l1]; rw [if_neg (by simp), Own_spec n o [] s (by simp) (by omega)]; rfl
  | m + 1, t, th, ht, hl => by
    obtain ⟨b, f1, f2⟩ := fits_ev t n (by omega)
    have hw := spec_weight_l t (by omega) t.length 0 0 (by omega)
    have hm : m < t.length := by omega
    have er : rd_T45 t ((t.length : Int) - 1) = t[m] := by rw [show (t.length : Int) - 1 = (m : Int) by omega]; exact rd45j t m hm
    have er2 : wrap64 ((t.length : Int) - 1) = (m : Int) := by rw [w64 (by omega) (by omega)]; omega
    have em : t.length - 1 = m := by omega
    have hX : ∀ k, (if 0 ≤ (m : Int) then (if (m : Int) < (t.length : Int) then (if th.length < 4398046511104 then (if (m : Int) ≤ (t.length : Int) then (spec_l12Fit.l1 k (th ++ [(⟨(rd_T45 t (m : Int)).f0, (rd_T45 t (m : Int)).f1⟩ : S45)]) (m : Int) n o (t.take ((m : Int)).toNat) s) else (none)) else (none)) else (none)) else (none)) = spec_l12Fit.l1 k (th ++ [t[m]]) (m : Int) n o (t.take m) s := fun k => by
      rw [if_pos (by omega), if_pos (by omega), if_pos (by omega), if_pos (by omega), rd45j t m hm, Int.toNat_natCast]
    have hstep : ∀ k, spec_l12Fit.l1 (k + 1) th (t.length : Int) n o t s = if (t.length : Int) > 60 then spec_l12Fit.l1 k (th ++ [t[m]]) (m : Int) n o (t.take m) s else ((spec_l12Weight.f k t).bind fun t246 => if t246 > n then spec_l12Fit.l1 k (th ++ [t[m]]) (m : Int) n o (t.take m) s else some (n, o, t, s, th)) := fun k => by
      simp only [spec_l12Fit.l1, er2]
      rw [if_pos (by omega), hX, Own_spec n o t s (by omega) (by omega)]; rfl
    by_cases hb : b = true
    · subst hb
      obtain ⟨h60, hwo⟩ := f2.1 rfl
      refine ⟨t, th, [], Ev.step (fun k => by simp only [settleE.l1] <;> rfl) (Ev.bind f1 ?_), Ev.step (fun k => by rw [hstep, if_neg (by omega)] <;> rfl) (Ev.bind hw ?_), by simp, by simp, ⟨h60, hwo⟩, fun p hp _ => hp⟩
      · simp only [if_true]; exact Ev.now _
      · rw [List.drop_zero]
        simp only [if_neg (show ¬ wgt 0 t > n by omega)]; exact Ev.now _
    · obtain ⟨t', th', r, g1, g2, g3, g4, g5, g6⟩ := fit1 n o hn s hs m (t.take m) (th ++ [t[m]]) (by simp; omega) (by simp; omega)
      have elen : ((t.take m).length : Int) = (m : Int) := by simp; omega
      rw [elen] at g2
      refine ⟨t', th', r ++ [t[m]], Ev.step (fun k => by simp only [settleE.l1] <;> rfl) (Ev.bind f1 ?_), ?_, by rw [← List.append_assoc, ← g3]; exact take_last t m ht, by rw [g4]; simp, g5, fun p hp hf => g6 p (List.prefix_take_iff.2 ⟨hp, ?_⟩) hf⟩
      rotate_left
      rotate_left
      · have h1 := hp.length_le
        by_cases c : p.length = t.length
        · rw [hp.eq_of_length c] at hf
          exact absurd (f2.2 hf) hb
        · omega
      · simp only [if_neg hb]
        refine Ev.congr (fun k => ?_) g1
        rw [if_pos (by omega), if_pos (by omega), er, em]
      · by_cases c60 : (t.length : Int) > 60
        · exact Ev.step (fun k => by rw [hstep, if_pos c60]) g2
        · have hwo : wgt 0 t > n := by
            have : ¬ ((t.length : Int) ≤ 60 ∧ wgt 0 t ≤ n) := fun h => hb (f2.2 h)
            omega
          refine Ev.step (fun k => by rw [hstep, if_neg c60] <;> rfl) (Ev.bind hw ?_)
          rw [List.drop_zero]
          simp only [if_pos hwo]; exact g2
theorem fit_both (n o : Int) (hn : 0 ≤ n) (ho : 0 ≤ o) (t s : List S45) (hl : t.length + s.length ≤ 1000) :
    ∃ t' s' th m r, Ev (fun k => settleE.f k n o t s) (t', s', th) ∧ Ev (fun k => spec_l12Fit.f k n o t s) (n, o, t', s', th) ∧ m ++ t = t' ++ r ∧ s = s' ++ m ∧ th = r.reverse ∧ fitsP t' n ∧ fitsP s' o ∧ (∀ p, p <+: s → fitsP p o → p <+: s') ∧ (∀ p, p <+: m ++ t → fitsP p n → p <+: t') := by
  obtain ⟨t1, s1, m, g1, g2, g3, g4, g5, g6⟩ := fit0 n o ho s.length s t rfl hl
  have hl1 : t1.length + s1.length ≤ 1000 := by
    rw [g4] at hl; rw [g3]; simp only [List.length_append] at hl ⊢; omega
  obtain ⟨t2, th, r, h1, h2, h3, h4, h5, h6⟩ := fit1 n o hn s1 (by omega) t1.length t1 [] rfl (by simp; omega)
  refine ⟨t2, s1, th, m, r, ?_, ?_, by rw [← g3]; exact h3, g4, by rw [h4]; rfl, h5, g5, g6, fun p hp hf => h6 p (by rw [g3]; exact hp) hf⟩
  · unfold settleE.f
    exact Ev.bind g1 (Ev.bind h1 (Ev.now _))
  · unfold spec_l12Fit.f
    exact g2 _ (Ev.step (fun k => by simp only [spec_l12Fit.j1]) h2)

def PreP (t s : List S45) : Prop := (∀ x ∈ t ++ s, entryB x = true) ∧ ((t ++ s).map keyE).Nodup
theorem good_pre {n o : Int} {t s : List S45} (h : GoodP n o t s) : PreP t s := by
  obtain ⟨_, _, ht, hs, hd⟩ := h
  refine ⟨fun x hx => (List.mem_append.1 hx).elim (ht.1 x) (hs.1 x), ?_⟩
  rw [List.map_append, List.nodup_append]
  refine ⟨ht.2.1, hs.2.1, fun a ha b hb e => ?_⟩
  obtain ⟨x, hx, rfl⟩ := List.mem_map.1 hb
  exact hd x hx (e ▸ ha)
theorem pre_good {n o : Int} {t s : List S45} (hn : roomB n = true) (ho : roomB o = true) (h : PreP t s) (ft : fitsP t n) (fs : fitsP s o) : GoodP n o t s := by
  obtain ⟨h1, h2⟩ := h
  rw [List.map_append, List.nodup_append] at h2
  exact ⟨hn, ho, ⟨fun x hx => h1 x (List.mem_append_left _ hx), h2.1, ft⟩, ⟨fun x hx => h1 x (List.mem_append_right _ hx), h2.2.1, fs⟩, fun x hx hm => h2.2.2 _ hm _ (List.mem_map_of_mem hx) rfl⟩
theorem pre_perm {t s t' s' r : List S45} (hp : (t' ++ s' ++ r).Perm (t ++ s)) (h : PreP t s) : PreP t' s' := by
  refine ⟨fun x hx => h.1 x (hp.mem_iff.1 (List.mem_append_left _ hx)), ?_⟩
  have := (hp.map keyE).nodup_iff.2 h.2
  rw [List.map_append] at this
  exact (List.nodup_append.1 this).1
theorem fit_perm {t s t' s' m r : List S45} (h1 : m ++ t = t' ++ r) (h2 : s = s' ++ m) : (t' ++ s' ++ r).Perm (t ++ s) := by
  subst h2
  have e1 : (t' ++ s' ++ r).Perm ((t' ++ r) ++ s') := by
    rw [List.append_assoc, List.append_assoc]; exact List.Perm.append_left _ List.perm_append_comm
  refine e1.trans ?_
  rw [← h1, List.append_assoc]
  refine List.perm_append_comm.trans ?_
  rw [List.append_assoc]
theorem fndE_key (a : ByteArray) : ∀ (l : List S45) (i j : Nat) (hj : j < l.length), fndE a l i = ((i + j : Nat) : Int) → keyE l[j] = a.toList
  | x :: xs, i, j, hj, h => by
    simp only [fndE] at h
    by_cases c : x.f0.toList = a.toList
    · rw [if_pos (by simpa using c)] at h
      obtain rfl : j = 0 := by omega
      exact c
    · rw [if_neg (by simpa using c)] at h
      cases j with
      | zero =>
        have h' : fndE a xs ((i + 1 : Nat) : Int) = ((i + 0 : Nat) : Int) := h
        rcases fndE_range a xs (i + 1) with e | ⟨j, hj, e⟩ <;> omega
      | succ j => exact fndE_key a xs (i + 1) j (by simpa using hj) (by have h' : fndE a xs ((i + 1 : Nat) : Int) = ((i + (j + 1) : Nat) : Int) := h; omega)
theorem fndE_cases (a : ByteArray) (l : List S45) : (fndE a l 0 = -1 ∧ a.toList ∉ l.map keyE) ∨ ∃ j, ∃ h : j < l.length, fndE a l 0 = (j : Int) ∧ keyE l[j] = a.toList := by
  rcases fndE_at a l with e | ⟨j, hj, e⟩
  · exact .inl ⟨e, fun h => by have := (fnd_has a l 0 (by omega)).2 h; omega⟩
  · exact .inr ⟨j, hj, e, fndE_key a l 0 j hj (by rw [Nat.zero_add]; exact e)⟩
theorem one_fits {e : S45} {o : Int} (he : entryB e = true) (ho : roomB o = true) : fitsP [e] o := by
  have h1 := of_decide_eq_true he
  have h2 := of_decide_eq_true ho
  refine ⟨by simp, ?_⟩
  simp only [wgt]
  rw [w64 (x := (e.f0.size : Int) + (e.f1.size : Int)) (by omega) (by omega), w64 (by omega) (by omega)]
  omega
theorem cons_erase_perm (s : List S45) (j : Nat) (hj : j < s.length) : (s[j] :: s.eraseIdx j).Perm s := by
  rw [List.eraseIdx_eq_take_drop_succ]
  refine (List.perm_middle (l₁ := s.take j)).symm.trans ?_
  rw [← List.drop_eq_getElem_cons hj, List.take_append_drop]
/-- Putting: both alike, the good state stays good; what is there afterwards. -/
theorem Put_both (n o : Int) (t s : List S45) (a b : ByteArray) (hg : GoodP n o t s) (he : entryB ⟨a, b⟩ = true) :
    ∃ t' s' th, Ev (fun k => spec_l12Put.f k n o t s a b) (n, o, t', s', th) ∧ Ev (fun k => impl_Segmented_put.f k n o t s a b) (n, o, t', s', th) ∧ GoodP n o t' s' ∧ ((t' ++ s' ++ th).map keyE).Nodup ∧ (∀ x ∈ t' ++ s' ++ th, x = ⟨a, b⟩ ∨ x ∈ t ++ s) ∧
      (t' ++ s' ++ th).length = (t ++ s).length + (if a.toList ∈ (t ++ s).map keyE then 0 else 1) ∧ (⟨a, b⟩ : S45) ∈ t' ++ s' ∧ (a.toList ∉ s.map keyE → s' = s) := by
  have hpre := good_pre hg
  obtain ⟨hn, ho, hpt, hps, hd⟩ := hg
  have hn0 : 0 ≤ n := by have := of_decide_eq_true hn; omega
  have ho0 : 0 ≤ o := by have := of_decide_eq_true ho; omega
  have lt : t.length ≤ 60 := by have := hpt.2.2.1; omega
  have ls : s.length ≤ 60 := by have := hps.2.2.1; omega
  have hat0 := At_ev s a (by omega)
  have at' := At_ev t a (by omega)
  have fin : ∀ (t0 s0 : List S45) (t' s' th m r : List S45), m ++ t0 = t' ++ r → s0 = s' ++ m → th = r.reverse → ((t0 ++ s0).map keyE).Nodup → (∀ x ∈ t0 ++ s0, x = ⟨a, b⟩ ∨ x ∈ t ++ s) → fitsP t' n → fitsP s' o →
      GoodP n o t' s' ∧ ((t' ++ s' ++ th).map keyE).Nodup ∧ (∀ x ∈ t' ++ s' ++ th, x = ⟨a, b⟩ ∨ x ∈ t ++ s) ∧ (t' ++ s' ++ th).length = (t0 ++ s0).length := by
    intro t0 s0 t' s' th m r h1 h2 h3 h4 h5 h6 h7
    have hp := fit_perm h1 h2
    have hp' : (t' ++ s' ++ th).Perm (t0 ++ s0) := by rw [h3]; exact ((List.reverse_perm r).append_left _).trans hp
    refine ⟨pre_good hn ho (pre_perm hp ⟨fun x hx => ?_, h4⟩) h6 h7, (hp'.map keyE).nodup_iff.2 h4, fun x hx => h5 x (hp'.mem_iff.1 hx), hp'.length_eq⟩
    rcases h5 x hx with e | e
    · rw [e]; exact he
    · exact hpre.1 x e
  have hown : ∀ t' s' : List S45, GoodP n o t' s' → impl_Segmented_own.f n o t' s' = some (n, o, t', s') := fun t' s' h => by
    have h1 := h.2.2.1.2.2.1
    have h2 := h.2.2.2.1.2.2.1
    exact Own_impl n o t' s' (by omega) (by omega)
  unfold spec_l12Put.f impl_Segmented_put.f
  rw [Own_impl n o t s (by omega) (by omega)]
  rcases fndE_cases a s with ⟨e, ne⟩ | ⟨j, hj, e, kj⟩
  · have stay : ∀ {t0 s' m : List S45}, s = s' ++ m → (∀ p, p <+: s → fitsP p o → p <+: s') → m = [] ∧ s' = s := by
      intro t0 s' m h1 h2
      have h3 := (h2 s (List.prefix_refl _) hps.2.2).length_le
      have h4 := congrArg List.length h1
      rw [List.length_append] at h4
      have hm : m = [] := List.eq_nil_of_length_eq_zero (by omega)
      subst hm
      exact ⟨rfl, by rw [h1, List.append_nil]⟩
    rcases fndE_cases a t with ⟨f, nf⟩ | ⟨i, hi, f, ki⟩
    · obtain ⟨t', s', th, m, r, g1, g2, g3, g4, g5, g6, g7, g8, g9⟩ := fit_both n o hn0 ho0 (⟨a, b⟩ :: t) s (by simp only [List.length_cons]; omega)
      obtain ⟨hm, hs'⟩ := stay (t0 := t) g4 g8
      have nk : a.toList ∉ (t ++ s).map keyE := by rw [List.map_append, List.mem_append]; exact fun h => h.elim nf ne
      obtain ⟨k1, k2, k3, k4⟩ := fin (⟨a, b⟩ :: t) s t' s' th m r g3 g4 g5 (by
        rw [List.cons_append, List.map_cons, List.nodup_cons]; exact ⟨nk, hpre.2⟩) (fun x hx => by
        rw [List.cons_append, List.mem_cons] at hx; exact hx) g6 g7
      refine ⟨t', s', th, Ev.bind hat0 ?_, Ev.bind (Ev.now _) ?_, k1, k2, k3, ?_, ?_, fun _ => hs'⟩
      · simp only [if_neg (show ¬ fndE a s 0 ≥ 0 by omega)]
        refine Ev.bind at' ?_
        simp only [if_neg (show ¬ fndE a t 0 ≥ 0 by omega), ahead_spec t _ _ (show t.length ≤ 1048576 by omega), Option.bind_some]
        exact Ev.bind g2 (Ev.now _)
      · simp only [takeE, if_neg (show ¬ 0 ≤ fndE a s 0 by omega), if_neg (show ¬ 0 ≤ fndE a t 0 by omega), Bool.false_eq_true, if_false, ahead_impl t _ _ (show t.length ≤ 1048576 by omega), Option.bind_some]
        refine Ev.bind g1 ?_
        simp only [hown t' s' k1, Option.bind_some]
        exact Ev.now _
      · rw [k4, if_neg nk]; simp only [List.cons_append, List.length_cons]
      · obtain ⟨q, hq⟩ := g9 [⟨a, b⟩] (by rw [hm]; exact ⟨t, rfl⟩) (one_fits he hn)
        rw [← hq]; simp
    · have hle := List.length_eraseIdx_le t i
      have hcp := cons_erase_perm t i hi
      obtain ⟨t', s', th, m, r, g1, g2, g3, g4, g5, g6, g7, g8, g9⟩ := fit_both n o hn0 ho0 (⟨a, b⟩ :: t.eraseIdx i) s (by simp only [List.length_cons]; omega)
      obtain ⟨hm, hs'⟩ := stay (t0 := t) g4 g8
      have hk : a.toList ∈ (t ++ s).map keyE := by rw [← ki]; exact List.mem_map_of_mem (List.mem_append_left _ (List.getElem_mem hi))
      obtain ⟨k1, k2, k3, k4⟩ := fin (⟨a, b⟩ :: t.eraseIdx i) s t' s' th m r g3 g4 g5 (by
        have h1 : ((⟨a, b⟩ :: t.eraseIdx i ++ s : List S45).map keyE) = ((t[i] :: t.eraseIdx i ++ s).map keyE) := by
          simp only [List.cons_append, List.map_cons]; rw [ki]; rfl
        rw [h1]; exact ((hcp.append_right s).map keyE).nodup_iff.2 hpre.2) (fun x hx => by
        rw [List.cons_append, List.mem_cons] at hx
        exact hx.imp id (fun h => (List.mem_append.1 h).elim (fun h => List.mem_append_left _ (List.mem_of_mem_eraseIdx h)) (List.mem_append_right _))) g6 g7
      refine ⟨t', s', th, Ev.bind hat0 ?_, Ev.bind (Ev.now _) ?_, k1, k2, k3, ?_, ?_, fun _ => hs'⟩
      · simp only [if_neg (show ¬ fndE a s 0 ≥ 0 by omega)]
        refine Ev.bind at' ?_
        simp only [f, if_pos (show (i : Int) ≥ 0 by omega), Without_eq t i hi (show t.length ≤ 1048576 by omega), Option.bind_some, ahead_spec (t.eraseIdx i) _ _ (show (t.eraseIdx i).length ≤ 1048576 by omega)]
        exact Ev.bind g2 (Ev.now _)
      · simp only [takeE, if_neg (show ¬ 0 ≤ fndE a s 0 by omega), f, if_pos (show 0 ≤ (i : Int) by omega), Int.toNat_natCast, Bool.false_eq_true, if_false, ahead_impl (t.eraseIdx i) _ _ (show (t.eraseIdx i).length ≤ 1048576 by omega), Option.bind_some]
        refine Ev.bind g1 ?_
        simp only [hown t' s' k1, Option.bind_some]
        exact Ev.now _
      · have := hcp.length_eq
        rw [k4, if_pos hk]; simp only [List.cons_append, List.length_cons, List.length_append] at this ⊢; omega
      · obtain ⟨q, hq⟩ := g9 [⟨a, b⟩] (by rw [hm]; exact ⟨_, rfl⟩) (one_fits he hn)
        rw [← hq]; simp
  · have hle := List.length_eraseIdx_le s j
    have hcp := cons_erase_perm s j hj
    obtain ⟨t', s', th, m, r, g1, g2, g3, g4, g5, g6, g7, g8, g9⟩ := fit_both n o hn0 ho0 t (⟨a, b⟩ :: s.eraseIdx j) (by simp only [List.length_cons]; omega)
    have hk : a.toList ∈ s.map keyE := by rw [← kj]; exact List.mem_map_of_mem (List.getElem_mem hj)
    have hk' : a.toList ∈ (t ++ s).map keyE := by rw [List.map_append]; exact List.mem_append_right _ hk
    obtain ⟨k1, k2, k3, k4⟩ := fin t (⟨a, b⟩ :: s.eraseIdx j) t' s' th m r g3 g4 g5 (by
      have h1 : ((t ++ ⟨a, b⟩ :: s.eraseIdx j : List S45).map keyE) = ((t ++ s[j] :: s.eraseIdx j).map keyE) := by
        simp only [List.map_append, List.map_cons]; rw [kj]; rfl
      rw [h1]; exact ((hcp.append_left t).map keyE).nodup_iff.2 hpre.2) (fun x hx => by
      rw [List.mem_append, List.mem_cons] at hx
      rcases hx with h | h | h
      · exact .inr (List.mem_append_left _ h)
      · exact .inl h
      · exact .inr (List.mem_append_right _ (List.mem_of_mem_eraseIdx h))) g6 g7
    refine ⟨t', s', th, Ev.bind hat0 ?_, Ev.bind (Ev.now _) ?_, k1, k2, k3, ?_, ?_, fun h => absurd hk h⟩
    · simp only [e, if_pos (show (j : Int) ≥ 0 by omega), Without_eq s j hj (show s.length ≤ 1048576 by omega), Option.bind_some, ahead_spec (s.eraseIdx j) _ _ (show (s.eraseIdx j).length ≤ 1048576 by omega)]
      exact Ev.bind g2 (Ev.now _)
    · simp only [takeE, e, if_pos (show 0 ≤ (j : Int) by omega), Int.toNat_natCast, if_true, ahead_impl (s.eraseIdx j) _ _ (show (s.eraseIdx j).length ≤ 1048576 by omega), Option.bind_some]
      refine Ev.bind g1 ?_
      simp only [hown t' s' k1, Option.bind_some]
      exact Ev.now _
    · have := hcp.length_eq
      rw [k4, if_pos hk']; simp only [List.length_cons, List.length_append] at this ⊢; omega
    · obtain ⟨q, hq⟩ := g8 [⟨a, b⟩] ⟨_, rfl⟩ (one_fits he ho)
      rw [← hq]; simp
theorem Good_both2 (n o : Int) (t s : List S45) (ht : t.length ≤ 1048576) (hs : s.length ≤ 1048576) (hz : ∀ x ∈ t ++ s, x.f0.size ≤ 1048576) :
    ∃ b, Ev (fun k => spec_GoodSegmented.f k n o t s) b ∧ Ev (fun k => impl_GoodSegmented.f k n o t s) b ∧ (b = true → GoodP n o t s) := by
  obtain ⟨b, h1, h2⟩ := Good_l n o t s ht hs s.length 0 (by omega) (by simp)
  obtain ⟨b', h3, h4⟩ := Good_impl n o t s ht hs hz
  have e : b = b' := Bool.eq_iff_iff.2 (h2.trans h4.symm)
  subst e
  exact ⟨b, h1, h3, h2.1⟩
theorem PutE_both (n o : Int) (t s : List S45) (a b : ByteArray) (ht : t.length ≤ 1048576) (hs : s.length ≤ 1048576) (hz : ∀ x ∈ t ++ s, x.f0.size ≤ 1048576) :
    ∃ q1 q2 q3 q4 q5 q6, Ev (fun k => spec_PutEntry.f k n o t s a b) (q1, q2, q3, q4, q5, q6) ∧ Ev (fun k => impl_PutEntry.f k n o t s a b) (q1, q2, q3, q4, q5, q6) ∧ q3.length ≤ 1000 ∧ q4.length ≤ 1000 ∧ q5.length ≤ 1000 := by
  obtain ⟨g, h1, h2, h3⟩ := Good_both2 n o t s ht hs hz
  unfold spec_PutEntry.f impl_PutEntry.f
  cases g with
  | false =>
    refine ⟨0, 0, [], [], [], false, Ev.bind h1 ?_, Ev.bind h2 ?_, by simp, by simp, by simp⟩
    · simp only [Bool.false_eq_true, if_false]; exact Ev.now _
    · simp only [Bool.false_eq_true, if_false]; exact Ev.now _
  | true =>
    have hg := h3 rfl
    have e1 : spec_l12Entry.f a b = some (entryB ⟨a, b⟩) := spec_entry ⟨a, b⟩
    have e2 : impl_isEntry.f a b = some (entryB ⟨a, b⟩) := impl_entry ⟨a, b⟩
    cases he : entryB ⟨a, b⟩ with
    | false =>
      refine ⟨0, 0, [], [], [], false, Ev.bind h1 ?_, Ev.bind h2 ?_, by simp, by simp, by simp⟩
      · simp only [if_true, e1, he, Option.bind_some, Bool.false_eq_true, if_false]; exact Ev.now _
      · simp only [if_true, e2, he, Option.bind_some, Bool.false_eq_true, if_false]; exact Ev.now _
    | true =>
      obtain ⟨t', s', th, p1, p2, p3, _, _, p4, _⟩ := Put_both n o t s a b hg he
      have l1 : t'.length ≤ 60 := by have := p3.2.2.1.2.2.1; omega
      have l2 : s'.length ≤ 60 := by have := p3.2.2.2.1.2.2.1; omega
      have l3 : t.length ≤ 60 := by have := hg.2.2.1.2.2.1; omega
      have l4 : s.length ≤ 60 := by have := hg.2.2.2.1.2.2.1; omega
      have l5 : th.length ≤ 1000 := by
        simp only [List.length_append] at p4
        split at p4 <;> omega
      refine ⟨n, o, t', s', th, true, Ev.bind h1 ?_, Ev.bind h2 ?_, by omega, by omega, l5⟩
      · simp only [if_true, e1, he, Option.bind_some, Own_spec n o t s ht hs]
        exact Ev.bind p1 (Ev.now _)
      · simp only [if_true, e2, he, Option.bind_some]
        exact Ev.bind p2 (Ev.now _)
theorem szE_some (a b : ByteArray) (c : Int) : ∃ r, laws_szEntry.f a b c = some r := by
  unfold laws_szEntry.f
  split
  · exact ⟨_, rfl⟩
  · split <;> exact ⟨_, rfl⟩
theorem FnExactPutEntry : laws_FnExactPutEntry.Pure := by
  intro x0 x1 w0 w1
  obtain ⟨r1, z1, z2⟩ := szSeg_ev x0.f0 x0.f1 x0.f2 x0.f3 w0.2.2.1 w0.2.2.2
  by_cases c1 : r1 < 0
  · obtain ⟨k, hk⟩ := z1.rounds
    exact .inl ⟨k, r1, hk, c1⟩
  obtain ⟨r2, e2⟩ := szE_some x1.f0 x1.f1 r1
  by_cases c2 : r2 < 0
  · obtain ⟨k, hk⟩ := z1.rounds
    exact .inr (.inl ⟨k, r1, r2, hk, c1, e2, c2⟩)
  refine .inr (.inr ?_)
  obtain ⟨⟨ht, hz1⟩, hs, hz2⟩ := z2 (by omega)
  have t1 := toSeg_ev x0.f0 x0.f1 x0.f2 x0.f3 ht hs
  have ht' : (x0.f2.map cv).length ≤ 1048576 := by simpa using ht
  have hs' : (x0.f3.map cv).length ≤ 1048576 := by simpa using hs
  have hz : ∀ x ∈ x0.f2.map cv ++ x0.f3.map cv, x.f0.size ≤ 1048576 := by
    intro x hx
    rcases List.mem_append.1 hx with hx | hx
    · obtain ⟨y, hy, rfl⟩ := List.mem_map.1 hx; exact (hz1 y hy).1
    · obtain ⟨y, hy, rfl⟩ := List.mem_map.1 hx; exact (hz2 y hy).1
  generalize x0.f2.map cv = t at t1 ht' hz
  generalize x0.f3.map cv = s at t1 hs' hz
  obtain ⟨q1, q2, q3, q4, q5, q6, p1, p2, l3, l4, l5⟩ := PutE_both x0.f0 x0.f1 t s x1.f0 x1.f1 ht' hs' hz
  obtain ⟨tm, sm, m1, _⟩ := markSeg_ev x0.f0 x0.f1 t s ht' hs'
  obtain ⟨q3m, q4m, m2, m3⟩ := markSeg_ev q1 q2 q3 q4 (by omega) (by omega)
  obtain ⟨q5m, m4, m5, m6⟩ := markES_ev q5 (1 + 2 * q3.length + 2 * q4.length) (by omega) (by omega)
  have h7 := heldES_ev q5m (1 + 2 * q3.length + 2 * q4.length) (by omega) (by omega) (fun i hi => m6 i (by omega))
  rw [m5] at h7
  have e1 := eqSeg_ev q1 q2 q3 q4 (by omega) (by omega)
  have e3 := eqES_ev q5 (by omega)
  have e4 := eqSeg_ev x0.f0 x0.f1 t s ht' hs'
  obtain ⟨K1, z1⟩ := z1
  obtain ⟨K2, t1⟩ := t1
  obtain ⟨K3, p1⟩ := p1
  obtain ⟨K4, p2⟩ := p2
  obtain ⟨K5, e1⟩ := e1
  obtain ⟨K6, e3⟩ := e3
  obtain ⟨K7, e4⟩ := e4
  obtain ⟨K8, m1⟩ := m1
  obtain ⟨K9, m2⟩ := m2
  obtain ⟨K10, m4⟩ := m4
  obtain ⟨K11, m3⟩ := m3 q1 q2
  obtain ⟨K12, h7⟩ := h7
  refine ⟨K1 + K2 + K3 + K4 + K5 + K6 + K7 + K8 + K9 + K10 + K11 + K12, r1, r2, x0.f0, x0.f1, t, s, q1, q2, q3, q4, q5, q6, _, tm, sm, _, q3m, q4m, _, q5m, ⟨z1 _ (by omega), c1, e2, c2, t1 _ (by omega), p1 _ (by omega), p2 _ (by omega), e1 _ (by omega), e3 _ (by omega), e4 _ (by omega), m1 _ (by omega), by omega, m2 _ (by omega), m4 _ (by omega), m3 _ (by omega), by omega, h7 _ (by omega), by omega⟩⟩

end Go.Proofs.Ytfopmaiednikhaa.Pure
