/- The program's PackBits returns what the reference's returns, for all arguments; conditions: those of the given statement alone. -/
import Derived.Test.YtobbhgghpjecjaaDoorPFnExactPackBitsx2
import Derived.Lib.Split
namespace Go.Proofs.YtobbhgghpjecjaaDoor.Pure
open Go.RowKit Go.Proofs.YtobbhgghpjecjaaDoor.PFnExactPackBits Go.Proofs.YtobbhgghpjecjaaDoorW.PrintWords Go.Proofs.YtobbhgghpjecjaaDoorW.PrintLast Go.Proofs.YtobbhgghpjecjaaDoorW.PrintMore Go.Proofs.YtobbhgghpjecjaaDoorOwn
set_option linter.unusedVariables false
set_option linter.unusedSimpArgs false

theorem wj {j n : Nat} (h : j < n) (hn : n ≤ 4611686018427387904) : wrap64 ((j : Int) + 1) = ((j + 1 : Nat) : Int) := by
  unfold wrap64; omega
theorem w64 {x : Int} (h0 : -9223372036854775808 ≤ x) (h1 : x ≤ 9223372036854775807) : wrap64 x = x := by
  unfold wrap64; omega
theorem rdj (l : List Int) (j : Nat) : rd l (j : Int) = l.getD j 0 := rfl
theorem getD_at {α : Type} {l : List α} {j : Nat} (h : j < l.length) (z : α) : l.getD j z = l[j] := by
  rw [List.getD_eq_getElem?_getD, List.getElem?_eq_getElem h]; rfl
theorem Ev.law {g : Nat → Option Bool} (h : Ev g true) : ∃ k, g k = some true := h.rounds
theorem wf_i64 {x : Int} (h : (Lit.int .i64 x).wf = true) : -9223372036854775808 ≤ x ∧ x ≤ 9223372036854775807 := by
  simp only [Lit.wf, IntKind.min, IntKind.max, IntKind.signed, IntKind.bits, Bool.and_eq_true, decide_eq_true_eq, if_true] at h
  omega

--IMPORT Derived.Lib.Split
theorem dsize (c : ByteArray) : c.data.toList.length = c.size := Array.length_toList
theorem bt_at_nat (s : ByteArray) (i : Nat) (h : i < s.size) : bt s (i : Int) = ((s.data.toList[i]'(by rw [dsize]; exact h)).toNat : Int) := by
  unfold bt
  rw [dif_pos (by simpa using h)]
  rfl
def IsBit (x : UInt8) : Prop := x = 48 ∨ x = 49
instance (x : UInt8) : Decidable (IsBit x) := by unfold IsBit; infer_instance
theorem isBit_iff (x : UInt8) : ([48, 49] : List UInt8).contains x = true ↔ IsBit x := by
  unfold IsBit; simp
theorem dropWhile_nil {p : UInt8 → Bool} : ∀ l : List UInt8, l.dropWhile p = [] ↔ ∀ x ∈ l, p x = true
  | [] => by simp
  | x :: xs => by
    rw [List.dropWhile_cons]
    by_cases h : p x = true
    · rw [if_pos h, dropWhile_nil xs]; simp [h]
    · rw [if_neg h]; simp [h]
theorem trim_bits (l : List UInt8) : (Lib.trimS l [48, 49]).isEmpty = true ↔ ∀ x ∈ l, IsBit x := by
  rw [List.isEmpty_iff]
  unfold Lib.trimS Lib.trimLeftS Lib.trimRightS
  rw [dropWhile_nil]
  constructor
  · intro h
    -- what is left behind the trim on the right is all bits, and ends with none
    by_cases e : l.reverse.dropWhile (fun x => ([48, 49] : List UInt8).contains x) = []
    · intro x hx
      have := (dropWhile_nil l.reverse).1 e x (by simpa using hx)
      exact (isBit_iff x).1 this
    · exfalso
      have h1 := h ((l.reverse.dropWhile (fun x => ([48, 49] : List UInt8).contains x)).head e) (by simp)
      have h2 := List.head_dropWhile_not (fun x => ([48, 49] : List UInt8).contains x) e
      rw [h1] at h2
      simp at h2
  · intro h
    have e : l.reverse.dropWhile (fun x => ([48, 49] : List UInt8).contains x) = [] :=
      (dropWhile_nil l.reverse).2 fun x hx => (isBit_iff x).2 (h x (by simpa using hx))
    rw [e]; simp
theorem bitText_l (s : ByteArray) (hn : s.size ≤ 1048576) (d : Nat) : ∀ (j : Nat), j + d = s.size → 
    ((∀ x ∈ s.data.toList.drop j, IsBit x) → Ev (fun k => spec_l15BitText.l0 k s (j : Int)) (decide ((s.size : Int) ≤ 4000))) ∧ (¬ (∀ x ∈ s.data.toList.drop j, IsBit x) → Ev (fun k => spec_l15BitText.l0 k s (j : Int)) false) := by
  induction d with
  | zero =>
    intro j hj
    rw [List.drop_eq_nil_of_le (by rw [dsize]; omega)]
    refine ⟨fun _ => Ev.step (f := fun _ => some (decide ((s.size : Int) ≤ 4000))) (fun k => ?_) (Ev.now _), fun h => absurd (fun x hx => absurd hx (by simp)) h⟩
    simp only [spec_l15BitText.l0]; rw [if_neg (by omega)]
  | succ d ih =>
    intro j hj
    have hlt : j < s.size := by omega
    have hlt2 : j < s.data.toList.length := by rw [dsize]; exact hlt
    obtain ⟨i1, i2⟩ := ih (j + 1) (by omega)
    rw [List.drop_eq_getElem_cons hlt2]
    have hb := bt_at_nat s j hlt
    by_cases c : IsBit s.data.toList[j]
    · have step : ∀ k, spec_l15BitText.l0 (k + 1) s (j : Int) = spec_l15BitText.l0 k s ((j + 1 : Nat) : Int) := by
        intro k
        simp only [spec_l15BitText.l0]
        rw [if_pos (by omega), if_pos (by omega), hb, wj (n := s.size) hlt (by omega)]
        rcases c with c | c
        · rw [c, if_pos (by decide)]
        · rw [c, if_neg (by decide), if_pos (by decide)]
      refine ⟨fun h => Ev.step step (i1 fun x hx => h x (List.mem_cons_of_mem _ hx)), fun h => Ev.step step (i2 fun h2 => h ?_)⟩
      intro x hx
      rcases List.mem_cons.1 hx with hx | hx
      · rw [hx]; exact c
      · exact h2 x hx
    · refine ⟨fun h => absurd (h _ List.mem_cons_self) c, fun _ => Ev.step (f := fun _ => some false) (fun k => ?_) (Ev.now _)⟩
      simp only [spec_l15BitText.l0]
      rw [if_pos (by omega), if_pos (by omega), hb]
      have n48 : ¬ ((s.data.toList[j].toNat : Int) = 48) := fun e => c (.inl (UInt8.toNat_inj.1 (by show s.data.toList[j].toNat = 48; omega)))
      have n49 : ¬ ((s.data.toList[j].toNat : Int) = 49) := fun e => c (.inr (UInt8.toNat_inj.1 (by show s.data.toList[j].toNat = 49; omega)))
      rw [if_neg n48, if_neg n49]
theorem bitText_both (s : ByteArray) (hn : s.size ≤ 1048576) : ∃ b, Ev (fun k => spec_l15BitText.f k s) b ∧ impl_areBits.f s = some b := by
  obtain ⟨h1, h2⟩ := bitText_l s hn s.size 0 (by omega)
  rw [List.drop_zero] at h1 h2
  have ht := trim_bits s.data.toList
  unfold impl_areBits.f
  by_cases c : ∀ x ∈ s.data.toList, IsBit x
  · refine ⟨_, h1 c, ?_⟩
    by_cases c2 : (s.size : Int) ≤ 4000
    · rw [if_pos c2, ht.2 c, decide_eq_true c2]
    · rw [if_neg c2, decide_eq_false c2]
  · refine ⟨_, h2 c, ?_⟩
    by_cases c2 : (s.size : Int) ≤ 4000
    · rw [if_pos c2, Bool.eq_false_iff.2 (fun e => c (ht.1 e))]
    · rw [if_neg c2]

theorem bapp (acc : List UInt8) (c : ByteArray) : (⟨acc.toArray⟩ : ByteArray) ++ c = ⟨(acc ++ c.data.toList).toArray⟩ := by
  apply ByteArray.ext
  simp
theorem bsize (acc : List UInt8) : (⟨acc.toArray⟩ : ByteArray).size = acc.length := by simp [ByteArray.size]
theorem bt_arr (acc : List UInt8) (i : Nat) (h : i < acc.length) : bt ⟨acc.toArray⟩ (i : Int) = (acc[i].toNat : Int) := by
  unfold bt
  rw [dif_pos (by rw [bsize]; simpa using h)]
  rfl
def AllBits (acc : List UInt8) : Prop := ∀ x ∈ acc, IsBit x
theorem bit_at (acc : List UInt8) (h : AllBits acc) (i : Nat) (hi : i < acc.length) : ∃ b : Nat, b < 2 ∧ bt ⟨acc.toArray⟩ (i : Int) = 48 + (b : Int) := by
  rw [bt_arr acc i hi]
  rcases h _ (List.getElem_mem hi) with e | e
  · exact ⟨0, by omega, by rw [e]; decide⟩
  · exact ⟨1, by omega, by rw [e]; decide⟩
theorem or_bit : ∀ v : Fin 128, ∀ b : Fin 2, Go.bits .or .u8 ((2 * v.1 : Nat) : Int) ((b.1 : Nat) : Int) = ((2 * v.1 + b.1 : Nat) : Int) := by decide +kernel
/-- what so many bits from a place on tell -/
def val (acc : List UInt8) (p : Nat) : Nat → Nat
  | 0 => 0
  | t + 1 => 2 * val acc p t + (bt ⟨acc.toArray⟩ ((p + t : Nat) : Int) - 48).toNat
theorem val_lt (acc : List UInt8) (h : AllBits acc) (p : Nat) : ∀ t, p + t ≤ acc.length → val acc p t < 2 ^ t
  | 0, _ => by simp [val]
  | t + 1, ht => by
    have ih := val_lt acc h p t (by omega)
    obtain ⟨b, hb, e⟩ := bit_at acc h (p + t) (by omega)
    unfold val
    rw [e, Nat.pow_succ]
    omega
theorem pack_in (acc : List UInt8) (h : AllBits acc) (hn : acc.length ≤ 5000) (x5 : Int) (pre : List Int) (hp : pre.length ≤ 5000) (j : Nat) (hj : 8 * j + 8 ≤ acc.length) (r : ByteArray × Int × Bool)
    (g : Ev (fun k => spec_PackBits.l1 k ⟨acc.toArray⟩ x5 (pre ++ [((val acc (8 * j) 8 : Nat) : Int)]) ((8 * (j + 1) : Nat) : Int)) r) (d : Nat) : ∀ t, t + d = 8 →
    Ev (fun k => spec_PackBits.l2 k ⟨acc.toArray⟩ x5 pre ((8 * j : Nat) : Int) ((val acc (8 * j) t : Nat) : Int) (t : Int)) r := by
  induction d with
  | zero =>
    intro t ht
    obtain rfl : t = 8 := by omega
    have hv := val_lt acc h (8 * j) 8 (by omega)
    refine Ev.step (fun k => ?_) g
    simp only [spec_PackBits.l2]
    have ev : ((val acc (8 * j) 8 : Nat) : Int) % 256 = ((val acc (8 * j) 8 : Nat) : Int) := by omega
    rw [if_neg (by omega), if_pos (by omega), ev, w64 (by omega) (by omega), show ((8 * j : Nat) : Int) + 8 = ((8 * (j + 1) : Nat) : Int) by omega]
  | succ d ih =>
    intro t ht
    have g2 := ih (t + 1) (by omega)
    have hv := val_lt acc h (8 * j) t (by omega)
    have hv2 : 2 ^ t ≤ 2 ^ 7 := Nat.pow_le_pow_right (by decide) (by omega)
    obtain ⟨b, hb, e⟩ := bit_at acc h (8 * j + t) (by omega)
    refine Ev.step (fun k => ?_) g2
    simp only [spec_PackBits.l2, bsize]
    have ea : wrap64 (((8 * j : Nat) : Int) + (t : Int)) = ((8 * j + t : Nat) : Int) := by rw [w64 (by omega) (by omega)]; omega
    have eb : ((val acc (8 * j) (t + 1) : Nat) : Int) = 2 * ((val acc (8 * j) t : Nat) : Int) + (b : Int) := by
      rw [val, e]; omega
    have e2 : wrap64 (2 * ((val acc (8 * j) t : Nat) : Int)) = 2 * ((val acc (8 * j) t : Nat) : Int) := w64 (by omega) (by omega)
    have e3 : (48 + (b : Int) - 48) % 256 = (b : Int) := by omega
    rw [if_pos (by omega), ea, if_pos (by omega), if_pos (by omega), e, e2, e3, w64 (x := 2 * ((val acc (8 * j) t : Nat) : Int) + (b : Int)) (by omega) (by omega), eb, wj (n := 8) (by omega) (by omega)]
theorem pack_im (acc : List UInt8) (h : AllBits acc) (hn : acc.length ≤ 5000) (x5 : Int) (pre post : List Int) (j : Nat) (hl : pre.length = j) (hj : 8 * j + 8 ≤ acc.length) (r : ByteArray × Int × Bool)
    (g : Ev (fun k => impl_PackBits.l0 k ⟨acc.toArray⟩ x5 (pre ++ ((val acc (8 * j) 8 : Nat) : Int) :: post) (acc.length : Int) ((8 * (j + 1) : Nat) : Int)) r) (d : Nat) : ∀ t, t + d = 8 →
    Ev (fun k => impl_PackBits.l0 k ⟨acc.toArray⟩ x5 (pre ++ ((val acc (8 * j) t : Nat) : Int) :: post) (acc.length : Int) ((8 * j + t : Nat) : Int)) r := by
  induction d with
  | zero =>
    intro t ht
    obtain rfl : t = 8 := by omega
    exact g
  | succ d ih =>
    intro t ht
    have g2 := ih (t + 1) (by omega)
    have hv := val_lt acc h (8 * j) t (by omega)
    have hv2 : 2 ^ t ≤ 2 ^ 7 := Nat.pow_le_pow_right (by decide) (by omega)
    obtain ⟨b, hb, e⟩ := bit_at acc h (8 * j + t) (by omega)
    refine Ev.step (fun k => ?_) g2
    simp only [impl_PackBits.l0, bsize]
    have ea : wrap64 (Int.tdiv ((8 * j + t : Nat) : Int) 8) = (j : Int) := by
      rw [Int.tdiv_eq_ediv_of_nonneg (by omega), w64 (by omega) (by omega)]; omega
    have eb : ((val acc (8 * j) (t + 1) : Nat) : Int) = ((2 * val acc (8 * j) t + b : Nat) : Int) := by
      rw [val, e]; omega
    have er : rd (pre ++ ((val acc (8 * j) t : Nat) : Int) :: post) (j : Int) = ((val acc (8 * j) t : Nat) : Int) := by
      rw [rdj, ← hl]; simp [List.getD_eq_getElem?_getD]
    have e2 : (((val acc (8 * j) t : Nat) : Int) * 2) % 256 = ((2 * val acc (8 * j) t : Nat) : Int) := by omega
    have e3 : (48 + (b : Int) - 48) % 256 = (b : Int) := by omega
    have eo := or_bit ⟨val acc (8 * j) t, by omega⟩ ⟨b, hb⟩
    simp only at eo
    have hll : (pre ++ ((val acc (8 * j) t : Nat) : Int) :: post).length = j + 1 + post.length := by simp [hl]; omega
    rw [if_pos (by omega), ea, if_pos (by omega), if_pos (by rw [hll]; omega), if_pos (by omega), if_pos (by omega), er, e2, e, e3, eo, eb, wj (n := 8 * j + t + 1) (by omega) (by omega), Int.toNat_natCast]
    have es : (pre ++ ((val acc (8 * j) t : Nat) : Int) :: post).set j ((2 * val acc (8 * j) t + b : Nat) : Int) = pre ++ ((2 * val acc (8 * j) t + b : Nat) : Int) :: post := by
      rw [List.set_append_right _ _ (by omega), hl, Nat.sub_self]; rfl
    rw [es]
    rfl
theorem pack_l (acc : List UInt8) (h : AllBits acc) (hn : acc.length ≤ 5000) (x5 : Int) (m : Nat) (hm : acc.length = 8 * m) (d : Nat) : ∀ (j : Nat) (pre : List Int), j + d = m → pre.length = j →
    ∃ r : ByteArray × Int × Bool, Ev (fun k => spec_PackBits.l1 k ⟨acc.toArray⟩ x5 pre ((8 * j : Nat) : Int)) r ∧ Ev (fun k => impl_PackBits.l0 k ⟨acc.toArray⟩ x5 (pre ++ List.replicate d 0) (acc.length : Int) ((8 * j : Nat) : Int)) r := by
  induction d with
  | zero =>
    intro j pre hj hl
    refine ⟨(strOfNums pre, x5, true), Ev.step (f := fun _ => some (strOfNums pre, x5, true)) (fun k => ?_) (Ev.now _), Ev.step (f := fun _ => some (strOfNums pre, x5, true)) (fun k => ?_) (Ev.now _)⟩
    · simp only [spec_PackBits.l1, bsize]; rw [if_neg (by omega)]
    · simp only [impl_PackBits.l0]; rw [if_neg (by omega)]; simp
  | succ d ih =>
    intro j pre hj hl
    obtain ⟨r, g1, g2⟩ := ih (j + 1) (pre ++ [((val acc (8 * j) 8 : Nat) : Int)]) (by omega) (by simp [hl])
    refine ⟨r, ?_, ?_⟩
    · have := pack_in acc h hn x5 pre (by omega) j (by omega) r g1 8 0 (by omega)
      refine Ev.step (fun k => ?_) this
      simp only [spec_PackBits.l1, bsize]
      rw [if_pos (by omega)]
      rfl
    · rw [List.append_assoc] at g2
      exact pack_im acc h hn x5 pre (List.replicate d 0) j hl (by omega) r g2 8 0 (by omega)
theorem pad_l (p : Nat) (hp : p ≤ 7) (r : ByteArray × Int × Bool) (d : Nat) : ∀ (i : Nat) (acc : List UInt8), acc.length + d ≤ 5000 → i + d = p →
    Ev (fun k => spec_PackBits.l1 k ⟨(acc ++ List.replicate d 49).toArray⟩ (p : Int) [] 0) r → Ev (fun k => spec_PackBits.l0 k ⟨acc.toArray⟩ (p : Int) (i : Int)) r := by
  induction d with
  | zero =>
    intro i acc hn hi g
    simp only [List.replicate_zero, List.append_nil] at g
    refine Ev.step (fun k => ?_) g
    simp only [spec_PackBits.l0]; rw [if_neg (by omega)]
  | succ d ih =>
    intro i acc hn hi g
    have g2 := ih (i + 1) (acc ++ [49]) (by simp; omega) (by omega) (by rw [List.append_assoc]; exact g)
    refine Ev.step (fun k => ?_) g2
    simp only [spec_PackBits.l0, bsize]
    rw [if_pos (by omega), if_pos (by omega), wj (n := 8) (by omega) (by omega), bapp]
theorem rep_one : ∀ c, Lib.repeatL [49] c = List.replicate c 49
  | 0 => rfl
  | c + 1 => by rw [Lib.repeatL, rep_one c, List.replicate_succ]; rfl
theorem PackBits_both (s : ByteArray) (hn : s.size ≤ 1048576) : ∃ r : ByteArray × Int × Bool, Ev (fun k => spec_PackBits.f k s) r ∧ Ev (fun k => impl_PackBits.f k s) r := by
  obtain ⟨b, b1, b2⟩ := bitText_both s hn
  cases b with
  | false =>
    refine ⟨(⟨#[]⟩, 0, false), Ev.bind b1 (Ev.congr (fun k => by rw [if_neg (by decide)]) (Ev.now _)), Ev.congr (fun k => ?_) (Ev.now _)⟩
    unfold impl_PackBits.f
    rw [b2]; rfl
  | true =>
    have hb : AllBits s.data.toList ∧ s.size ≤ 4000 := by
      unfold impl_areBits.f at b2
      by_cases c : (s.size : Int) ≤ 4000
      · rw [if_pos c] at b2
        exact ⟨(trim_bits s.data.toList).1 (Option.some.inj b2), by omega⟩
      · rw [if_neg c] at b2; exact absurd b2 (by simp)
    obtain ⟨hb, h4⟩ := hb
    obtain ⟨p, hp⟩ : ∃ p : Nat, p = (8 - s.size % 8) % 8 := ⟨_, rfl⟩
    have ep : (8 - ((s.size : Int) % 8)) % 8 = (p : Int) := by omega
    have hp7 : p ≤ 7 := by omega
    obtain ⟨m, hm⟩ : ∃ m, s.size + p = 8 * m := ⟨(s.size + p) / 8, by omega⟩
    have hd : s.data.toList.length = s.size := dsize s
    have es : (⟨s.data.toList.toArray⟩ : ByteArray) = s := by apply ByteArray.ext; simp
    have hl : (s.data.toList ++ List.replicate p (49 : UInt8)).length = 8 * m := by simp only [List.length_append, List.length_replicate, hd]; exact hm
    have hall : AllBits (s.data.toList ++ List.replicate p (49 : UInt8)) := by
      intro x hx
      rcases List.mem_append.1 hx with hx | hx
      · exact hb x hx
      · exact .inr (List.eq_of_mem_replicate hx)
    obtain ⟨r, g1, g2⟩ := pack_l _ hall (by omega) (p : Int) m hl m 0 [] (by omega) rfl
    refine ⟨r, ?_, ?_⟩
    · refine Ev.bind b1 ?_
      have g := pad_l p hp7 r p 0 s.data.toList (by omega) (by omega) g1
      rw [es] at g
      simp only [if_true, ep]
      exact g
    · refine Ev.congr (fun k => ?_) g2
      unfold impl_PackBits.f strings_Repeat.f
      have eb : s ++ (⟨(List.replicate p (49 : UInt8)).toArray⟩ : ByteArray) = ⟨(s.data.toList ++ List.replicate p 49).toArray⟩ := by
        apply ByteArray.ext; simp
      have e8 : wrap64 (((8 * m : Nat) : Int) / 8) = (m : Int) := by rw [w64 (by omega) (by omega)]; omega
      have e1 : ((⟨#[49]⟩ : ByteArray).data.toList) = [49] := rfl
      have e2 : (⟨#[49]⟩ : ByteArray).size = 1 := rfl
      rw [b2]
      simp only [Option.bind_some, if_true, ep, e1, e2, Int.toNat_natCast, rep_one]
      rw [if_pos (by omega), if_pos (by omega), if_pos (by omega), if_pos (by omega)]
      simp only [Option.bind_some, eb, bsize, hl, e8, Int.toNat_natCast]
      rw [if_pos (by rw [List.length_replicate]; omega), if_pos (by omega), if_pos (by omega)]
      rfl

theorem FnExactPackBits : laws_FnExactPackBits.Pure := by
  intro s _
  refine Ev.law ?_
  unfold laws_FnExactPackBits.f
  by_cases hs : (s.size : Int) > 1048576
  · exact Ev.congr (fun k => by rw [if_pos hs]) (Ev.now _)
  simp only [if_neg hs]
  obtain ⟨r, h1, h2⟩ := PackBits_both s (by omega)
  refine Ev.bind h1 (Ev.bind h2 ?_)
  simp only [if_true, bne_self_eq_false]
  exact Ev.congr (f := fun _ => some true) (fun k => by simp) (Ev.now _)

end Go.Proofs.YtobbhgghpjecjaaDoor.Pure
