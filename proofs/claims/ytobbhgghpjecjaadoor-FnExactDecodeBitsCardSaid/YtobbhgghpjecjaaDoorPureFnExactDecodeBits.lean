/- The two programs' symbols of bits are alike. -/
import Derived.Test.YtobbhgghpjecjaaDoorPFnExactDecodeBitsx5
import Derived.Lib.RabinKarpLaws
import Derived.Lib.Split
namespace Go.Proofs.YtobbhgghpjecjaaDoor.Pure
open Go.RowKit Go.Proofs.YtobbhgghpjecjaaDoor.PFnExactDecodeBits Go.Proofs.YtobbhgghpjecjaaDoorW.PrintWords Go.Proofs.YtobbhgghpjecjaaDoorW.PrintLast Go.Proofs.YtobbhgghpjecjaaDoorW.PrintMore Go.Proofs.YtobbhgghpjecjaaDoorOwn
set_option linter.unusedVariables false
set_option linter.unusedSimpArgs false

theorem wj {j n : Nat} (h : j < n) (hn : n ≤ 4611686018427387904) : wrap64 ((j : Int) + 1) = ((j + 1 : Nat) : Int) := by
  unfold wrap64; omega
theorem w64 {x : Int} (h0 : -9223372036854775808 ≤ x) (h1 : x ≤ 9223372036854775807) : wrap64 x = x := by
  unfold wrap64; omega
theorem rdj (l : List Int) (j : Nat) : rd l (j : Int) = l.getD j 0 := rfl
theorem getD_at {α : Type} {l : List α} {j : Nat} (h : j < l.length) (z : α) : l.getD j z = l[j] := by
  rw [List.getD_eq_getElem?_getD, List.getElem?_eq_getElem h]; rfl
theorem Ev.law {g : Nat → Option Bool} (h : Ev g true) : ∃ k, g k = some true := h.rounds
theorem wf_i64 {x : Int} (h : (Lit.int .i64 x).wf = true) : -9223372036854775808 ≤ x ∧ x ≤ 9223372036854775807 := by
  simp only [Lit.wf, IntKind.min, IntKind.max, IntKind.signed, IntKind.bits, Bool.and_eq_true, decide_eq_true_eq, if_true] at h
  omega

theorem l1In_eq (a b c : Int) : spec_l1In.f a b c = some (decide (b ≤ a ∧ a ≤ c)) := by
  unfold spec_l1In.f; by_cases h : b ≤ a <;> simp [h]
theorem within_eq (a b c : Int) : impl_within.f a b c = some (decide (b ≤ a ∧ a ≤ c)) := by
  unfold impl_within.f; by_cases h : b ≤ a <;> simp [h]

theorem toIntS_l (l : List Int) (hn : l.length ≤ 1048576) (d : Nat) : ∀ (j : Nat) (x3 : List Int), j + d = l.length → x3.length = l.length → (∀ i, i < j → x3[i]? = l[i]?) →
    Ev (fun k => laws_toIntS.l0 k l x3 (j : Int)) l := by
  induction d with
  | zero =>
    intro j x3 hj h3 he
    refine Ev.step (f := fun _ => some l) (fun k => ?_) (Ev.now _)
    simp only [laws_toIntS.l0]
    rw [if_neg (by omega)]
    refine congrArg some (List.ext_getElem? fun i => ?_)
    by_cases hi : i < j
    · exact he i hi
    · rw [List.getElem?_eq_none (by omega), List.getElem?_eq_none (by omega)]
  | succ d ih =>
    intro j x3 hj h3 he
    refine Ev.step (fun k => ?_) (ih (j + 1) (x3.set j (rd l j)) (by omega) (by simpa using h3) (fun i hi => ?_))
    · simp only [laws_toIntS.l0]
      rw [if_pos (by omega), if_pos (by omega), if_pos (by omega), wj (n := l.length) (by omega) (by omega)]
      rfl
    · rw [List.getElem?_set]
      split
      · rename_i h
        subst h
        rw [if_pos (by omega), rdj, getD_at (by omega), List.getElem?_eq_getElem (by omega)]
      · exact he i (by omega)
theorem toIntS_ev (l : List Int) (hn : l.length ≤ 1048576) : Ev (fun k => laws_toIntS.f k l) l := by
  refine Ev.congr (fun k => ?_) (toIntS_l l hn l.length 0 (List.replicate l.length 0) (by omega) (by simp) (fun i hi => by omega))
  simp only [laws_toIntS.f]
  rw [if_pos (by omega), if_pos (by omega)]
  rfl

theorem eqIntS_l (l : List Int) (hn : l.length ≤ 1048576) (d : Nat) : ∀ (j : Nat), j + d = l.length → Ev (fun k => laws_eqIntS.l0 k l l (j : Int)) true := by
  induction d with
  | zero =>
    intro j hj
    refine Ev.step (f := fun _ => some true) (fun k => ?_) (Ev.now _)
    simp only [laws_eqIntS.l0]
    rw [if_neg (by omega)]
  | succ d ih =>
    intro j hj
    refine Ev.step (fun k => ?_) (ih (j + 1) (by omega))
    simp only [laws_eqIntS.l0]
    rw [if_pos (by omega), if_pos (by omega), if_pos (by omega), if_pos trivial, wj (n := l.length) (by omega) (by omega)]
theorem eqIntS_ev (l : List Int) (hn : l.length ≤ 1048576) : Ev (fun k => laws_eqIntS.f k l l) true := by
  refine Ev.congr (fun k => ?_) (eqIntS_l l hn l.length 0 (by omega))
  simp only [laws_eqIntS.f]
  rw [if_pos trivial]
  rfl

/-- Numbers that are lengths. -/
def lenB (l : List Int) : Bool := decide (1 ≤ (l.length : Int) ∧ (l.length : Int) ≤ 24) && l.all fun n => decide (0 ≤ n ∧ n ≤ 23)
theorem lenB_iff (l : List Int) : lenB l = true ↔ (1 ≤ (l.length : Int) ∧ (l.length : Int) ≤ 24) ∧ ∀ n ∈ l, 0 ≤ n ∧ n ≤ 23 := by
  simp [lenB, List.all_eq_true]
theorem areLengths_eq (l : List Int) : impl_areLengths.f l = some (lenB l) := by
  unfold impl_areLengths.f impl_areAll_int__59.f
  rw [within_eq, allO_all (q := fun n => decide (0 ≤ n ∧ n ≤ 23)) (fun x => by unfold impl_areLengths_1.f; rw [within_eq]; rfl)]
  simp only [Option.bind_some, lenB]
  by_cases h : 1 ≤ (l.length : Int) ∧ (l.length : Int) ≤ 24 <;> simp [h]
theorem l15Lengths_l (l : List Int) (hn : l.length ≤ 1048576) (d : Nat) : ∀ (j : Nat), j + d = l.length → (∀ n ∈ l.take j, 0 ≤ n ∧ n ≤ 23) → Ev (fun k => spec_l15Lengths.l0 k l l (l.length : Int) (j : Int)) (lenB l) := by
  induction d with
  | zero =>
    intro j hj ha
    refine Ev.step (f := fun _ => some (lenB l)) (fun k => ?_) (Ev.now _)
    simp only [spec_l15Lengths.l0]
    rw [if_neg (by omega), l1In_eq]
    simp only [Option.bind_some, Option.some.injEq, lenB]
    rw [List.take_of_length_le (by omega)] at ha
    rw [show (l.all fun n => decide (0 ≤ n ∧ n ≤ 23)) = true from by simpa [List.all_eq_true] using ha, Bool.and_true]
  | succ d ih =>
    intro j hj ha
    have hlt : j < l.length := by omega
    by_cases hx : 0 ≤ l[j] ∧ l[j] ≤ 23
    · refine Ev.step (fun k => ?_) (ih (j + 1) (by omega) (fun n hm => ?_))
      · simp only [spec_l15Lengths.l0]
        rw [if_pos (by omega), if_pos (by omega), if_pos (by omega), l1In_eq, rdj, getD_at hlt]
        simp only [Option.bind_some, decide_eq_true_eq]
        rw [if_pos hx, wj (n := l.length) hlt (by omega)]
      · rw [List.take_succ_eq_append_getElem hlt, List.mem_append] at hm
        rcases hm with hm | hm
        · exact ha n hm
        · rw [List.mem_singleton.1 hm]; exact hx
    · refine Ev.step (f := fun _ => some (lenB l)) (fun k => ?_) (Ev.now _)
      simp only [spec_l15Lengths.l0]
      rw [if_pos (by omega), if_pos (by omega), if_pos (by omega), l1In_eq, rdj, getD_at hlt]
      simp only [Option.bind_some, decide_eq_true_eq]
      rw [if_neg hx]
      refine congrArg some ?_
      symm
      rw [Bool.eq_false_iff]
      intro h
      exact hx ((lenB_iff l).1 h |>.2 _ (List.getElem_mem hlt))
theorem l15Lengths_ev (l : List Int) (hn : l.length ≤ 1048576) : Ev (fun k => spec_l15Lengths.f k l) (lenB l) :=
  l15Lengths_l l hn l.length 0 (by omega) (by simp)

theorem shl_eq (n : Int) (h0 : 0 ≤ n) (h1 : n ≤ 23) : shl .i64 1 (IntKind.u64.wrap (wrap64 (23 - n))) = shl .i64 1 (wrap64 (23 - n)) := by
  rw [w64 (by omega) (by omega)]
  refine congrArg (shl .i64 1) ?_
  simp only [IntKind.wrap, IntKind.bits, IntKind.signed]; simp; omega
theorem kraft_same (k : Nat) : ∀ (x3 : Int) (l : List Int) (x7 x8 : Int), (∀ n ∈ l, 0 ≤ n ∧ n ≤ 23) → spec_l15Kraft.l0 k x3 l x7 x8 = impl_kraft.l0 k x3 l x7 x8 := by
  induction k with
  | zero => intros; rfl
  | succ k ih =>
    intro x3 l x7 x8 hl
    simp only [spec_l15Kraft.l0, impl_kraft.l0]
    by_cases h1 : x8 < x7
    · rw [if_pos h1, if_pos h1]
      by_cases h2 : 0 ≤ x8
      · rw [if_pos h2, if_pos h2]
        by_cases h3 : x8 < (l.length : Int)
        · rw [if_pos h3, if_pos h3]
          have hm : 0 ≤ rd l x8 ∧ rd l x8 ≤ 23 := by
            have : rd l x8 = l[x8.toNat]'(by omega) := getD_at (by omega) 0
            rw [this]; exact hl _ (List.getElem_mem _)
          by_cases h4 : rd l x8 > 0
          · rw [if_pos h4, if_pos h4, if_pos (by rw [w64 (by omega) (by omega)]; simp only [IntKind.wrap, IntKind.bits, IntKind.signed]; simp; omega), if_pos (by rw [w64 (by omega) (by omega)]; omega), shl_eq _ hm.1 hm.2]
            exact ih _ _ _ _ hl
          · rw [if_neg h4, if_neg h4]
            exact ih _ _ _ _ hl
        · rw [if_neg h3, if_neg h3]
      · rw [if_neg h2, if_neg h2]
    · rw [if_neg h1, if_neg h1]
/-- It ends. -/
theorem kraft_ends (l : List Int) (hl : ∀ n ∈ l, 0 ≤ n ∧ n ≤ 23) (hn : l.length ≤ 1048576) (d : Nat) : ∀ (j : Nat) (x3 : Int), j + d = l.length → ∃ r, Ev (fun k => impl_kraft.l0 k x3 l (l.length : Int) (j : Int)) r := by
  induction d with
  | zero =>
    intro j x3 hj
    refine ⟨x3, Ev.step (f := fun _ => some x3) (fun k => ?_) (Ev.now _)⟩
    simp only [impl_kraft.l0]
    rw [if_neg (by omega)]
  | succ d ih =>
    intro j x3 hj
    have hlt : j < l.length := by omega
    have hm := hl _ (List.getElem_mem hlt)
    by_cases h4 : l[j] > 0
    · obtain ⟨r, hr⟩ := ih (j + 1) (wrap64 (x3 + shl .i64 1 (wrap64 (23 - l[j])))) (by omega)
      refine ⟨r, Ev.step (fun k => ?_) hr⟩
      simp only [impl_kraft.l0]
      rw [if_pos (by omega), if_pos (by omega), if_pos (by omega), rdj, getD_at hlt, if_pos h4, if_pos (by rw [w64 (by omega) (by omega)]; omega), wj (n := l.length) hlt (by omega)]
    · obtain ⟨r, hr⟩ := ih (j + 1) x3 (by omega)
      refine ⟨r, Ev.step (fun k => ?_) hr⟩
      simp only [impl_kraft.l0]
      rw [if_pos (by omega), if_pos (by omega), if_pos (by omega), rdj, getD_at hlt, if_neg h4, wj (n := l.length) hlt (by omega)]
theorem kraft_both (l : List Int) (hl : ∀ n ∈ l, 0 ≤ n ∧ n ≤ 23) (hn : l.length ≤ 1048576) : ∃ r, Ev (fun k => impl_kraft.f k l) r ∧ Ev (fun k => spec_l15Kraft.f k l) r := by
  obtain ⟨r, hr⟩ := kraft_ends l hl hn l.length 0 0 (by omega)
  exact ⟨r, hr, Ev.congr (fun k => kraft_same k 0 l l.length 0 hl) hr⟩

--IMPORT Derived.Lib.RabinKarpLaws
/-- The bytes of a number in so many bits. -/
def bitNum (n s i : Nat) : Int := ((48 + n / 2 ^ (s - 1 - i) % 2 : Nat) : Int)
def bitNums (n s : Nat) : List Int := (List.range s).map (bitNum n s)
def bitText (n s : Nat) : ByteArray := strOfNums (bitNums n s)
theorem bitNums_length (n s : Nat) : (bitNums n s).length = s := by simp [bitNums]
theorem shr_nat (n e : Nat) (he : e ≤ 63) : shr .i64 (n : Int) (e : Int) = ((n / 2 ^ e : Nat) : Int) := by
  unfold shr
  rw [show min (e : Int).toNat IntKind.i64.bits = e from by simp only [IntKind.bits]; omega]
  rw [Int.natCast_ediv, Int.natCast_pow]; rfl
theorem u64_small {x : Int} (h0 : 0 ≤ x) (h1 : x ≤ 9223372036854775807) : IntKind.u64.wrap x = x := by
  simp only [IntKind.wrap, IntKind.bits, IntKind.signed]; simp; omega
theorem bit_step (n e : Nat) (hn : n < 9223372036854775808) : Go.bits .and .i64 ((n / 2 ^ e : Nat) : Int) 1 = ((n / 2 ^ e % 2 : Nat) : Int) :=
  Go.Proofs.and_one (n / 2 ^ e) (Nat.lt_of_le_of_lt (Nat.div_le_self _ _) hn)
theorem bits_l (n s : Nat) (hn : n < 9223372036854775808) (hs : s ≤ 60) (d : Nat) : ∀ (j : Nat) (x : List Int), j + d = s → x.length = s → (∀ i, i < j → x[i]? = some (bitNum n s i)) →
    Ev (fun k => spec_l15Bits.l0 k (n : Int) (s : Int) x (s : Int) (j : Int)) (bitText n s) ∧ Ev (fun k => impl_binary.l0 k (n : Int) (s : Int) x (s : Int) (j : Int)) (bitText n s) := by
  induction d with
  | zero =>
    intro j x hj hx he
    have e : x = bitNums n s := List.ext_getElem? fun i => by
      by_cases hi : i < s
      · rw [he i (by omega)]; simp [bitNums, hi]
      · rw [List.getElem?_eq_none (by omega), List.getElem?_eq_none (by rw [bitNums_length]; omega)]
    subst e
    constructor
    · refine Ev.step (f := fun _ => some (bitText n s)) (fun k => ?_) (Ev.now _)
      simp only [spec_l15Bits.l0]; rw [if_neg (by omega)]; rfl
    · refine Ev.step (f := fun _ => some (bitText n s)) (fun k => ?_) (Ev.now _)
      simp only [impl_binary.l0]; rw [if_neg (by omega)]; rfl
  | succ d ih =>
    intro j x hj hx he
    have hb : 0 ≤ n / 2 ^ (s - 1 - j) % 2 ∧ n / 2 ^ (s - 1 - j) % 2 < 2 := ⟨Nat.zero_le _, Nat.mod_lt _ (by decide)⟩
    have hw : wrap64 (wrap64 ((s : Int) - 1) - (j : Int)) = ((s - 1 - j : Nat) : Int) := by
      rw [w64 (x := (s : Int) - 1) (by omega) (by omega), w64 (by omega) (by omega)]; omega
    obtain ⟨h1, h2⟩ := ih (j + 1) (x.set j (bitNum n s j)) (by omega) (by simpa using hx) (fun i hi => by
      rw [List.getElem?_set]
      split
      · rename_i h; subst h; rw [if_pos (by omega)]
      · exact he i (by omega))
    constructor
    · refine Ev.step (fun k => ?_) h1
      simp only [spec_l15Bits.l0]
      rw [if_pos (by omega), hw, u64_small (by omega) (by omega), if_pos (by omega), if_pos (by omega), if_pos (by omega), shr_nat n _ (by omega), bit_step n _ hn, wj (n := s) (by omega) (by omega)]
      rw [show (48 + ((n / 2 ^ (s - 1 - j) % 2 : Nat) : Int) % 256) % 256 = bitNum n s j from by unfold bitNum; omega]
      rfl
    · refine Ev.step (fun k => ?_) h2
      simp only [impl_binary.l0]
      rw [if_pos (by omega), hw, if_pos (by omega), if_pos (by omega), if_pos (by omega), shr_nat n _ (by omega), bit_step n _ hn, wj (n := s) (by omega) (by omega)]
      rw [show (wrap64 (48 + ((n / 2 ^ (s - 1 - j) % 2 : Nat) : Int))) % 256 = bitNum n s j from by rw [w64 (by omega) (by omega)]; unfold bitNum; omega]
      rfl
theorem bits_ev (n s : Nat) (hn : n < 9223372036854775808) (hs : s ≤ 60) : Ev (fun k => spec_l15Bits.f k (n : Int) (s : Int)) (bitText n s) ∧ Ev (fun k => impl_binary.f k (n : Int) (s : Int)) (bitText n s) := by
  obtain ⟨h1, h2⟩ := bits_l n s hn hs s 0 (List.replicate s 0) (by omega) (by simp) (fun i hi => by omega)
  constructor
  · refine Ev.congr (fun k => ?_) h1
    simp only [spec_l15Bits.f]
    rw [if_pos (by omega), if_pos (by omega)]
    simp
  · refine Ev.congr (fun k => ?_) h2
    simp only [impl_binary.f]
    rw [if_pos (by omega), if_pos (by omega)]
    simp

/-- The codes of one length: of the lengths and what stands there so far; the next number. -/
def cin (s : Nat) : List Int → List ByteArray → Nat → List ByteArray × Nat
  | x :: xs, o :: os, n => if x = (s : Int) then (bitText n s :: (cin s xs os (n + 1)).1, (cin s xs os (n + 1)).2) else (o :: (cin s xs os n).1, (cin s xs os n).2)
  | _, _, n => ([], n)
/-- The codes from one length on. -/
def cout (l : List Int) : Nat → Nat → List ByteArray → Nat → List ByteArray
  | 0, _, out, _ => out
  | d + 1, s, out, n => cout l d (s + 1) (cin s l out (2 * n)).1 (cin s l out (2 * n)).2
/-- The codes of lengths. -/
def codesP (l : List Int) : List ByteArray := cout l 23 1 (List.replicate l.length ⟨#[]⟩) 0
theorem cin_length (s : Nat) : ∀ (l : List Int) (os : List ByteArray) (n : Nat), l.length = os.length → (cin s l os n).1.length = l.length
  | [], [], _, _ => rfl
  | x :: xs, o :: os, n, h => by
    unfold cin
    split
    · simp [cin_length s xs os (n + 1) (by simpa using h)]
    · simp [cin_length s xs os n (by simpa using h)]
theorem cin_le (s : Nat) : ∀ (l : List Int) (os : List ByteArray) (n : Nat), (cin s l os n).2 ≤ n + l.length
  | [], _, n => by simp [cin]
  | x :: xs, [], n => by simp [cin]
  | x :: xs, o :: os, n => by
    unfold cin
    split
    · have := cin_le s xs os (n + 1); simp; omega
    · have := cin_le s xs os n; simp; omega
theorem drop_cons {α : Type} {l : List α} {j : Nat} (h : j < l.length) : l.drop j = l[j] :: l.drop (j + 1) := List.drop_eq_getElem_cons h
theorem shl_at (n q s : Nat) (hq : q ≤ s) (hs : s ≤ 60) (hn : n * 2 ^ (s - q) < 9223372036854775808) : shl .i64 (n : Int) (wrap64 ((s : Int) - (q : Int))) = ((n * 2 ^ (s - q) : Nat) : Int) := by
  rw [w64 (by omega) (by omega)]
  unfold shl
  rw [show min ((s : Int) - (q : Int)).toNat IntKind.i64.bits = s - q from by simp only [IntKind.bits]; omega]
  rw [show (n : Int) * 2 ^ (s - q) = ((n * 2 ^ (s - q) : Nat) : Int) from by rw [Int.natCast_mul, Int.natCast_pow]; rfl]
  generalize n * 2 ^ (s - q) = z at hn
  simp only [IntKind.wrap, IntKind.bits, IntKind.signed]; simp; omega
theorem codes_l1 (l : List Int) (hl : l.length ≤ 24) (s : Nat) (hs0 : 1 ≤ s) (hs : s ≤ 23) (r : List ByteArray)
    (H : ∀ (out : List ByteArray) (n q m : Nat), q ≤ s → m * 2 ^ (s - q) = n → n ≤ 24 * 2 ^ s - 24 → out.length = l.length → (cout l (23 - s) (s + 1) out n = r) →
      Ev (fun k => spec_l15Codes.l0 k l out (n : Int) ((s + 1 : Nat) : Int)) r ∧ Ev (fun k => impl_codesOf.l0 k l out (m : Int) (q : Int) ((s + 1 : Nat) : Int)) r) (d : Nat) :
    ∀ (j : Nat) (pre os : List ByteArray) (n q m : Nat), j + d = l.length → pre.length = j → os.length = d → q ≤ s → m * 2 ^ (s - q) = n → n + d ≤ 24 * 2 ^ s - 24 →
      cout l (23 - s) (s + 1) (pre ++ (cin s (l.drop j) os n).1) (cin s (l.drop j) os n).2 = r →
      Ev (fun k => spec_l15Codes.l1 k l (pre ++ os) (n : Int) (s : Int) l (l.length : Int) (j : Int)) r ∧ Ev (fun k => impl_codesOf.l1 k l (pre ++ os) (m : Int) (q : Int) (s : Int) l (l.length : Int) (j : Int)) r := by
  have hp : 2 ^ s ≤ 8388608 := Nat.pow_le_pow_right (n := 2) (by decide) hs
  induction d with
  | zero =>
    intro j pre os n q m hj hpre hos hq hm hn hr
    obtain rfl : os = [] := List.eq_nil_of_length_eq_zero hos
    rw [List.drop_eq_nil_of_le (by omega)] at hr
    simp only [cin, List.append_nil] at hr
    obtain ⟨h1, h2⟩ := H pre n q m hq hm (by omega) (by omega) hr
    rw [List.append_nil]
    constructor
    · refine Ev.step (fun k => ?_) h1
      simp only [spec_l15Codes.l1]
      rw [if_neg (by omega), w64 (by omega) (by omega)]; rfl
    · refine Ev.step (fun k => ?_) h2
      simp only [impl_codesOf.l1]
      rw [if_neg (by omega), w64 (by omega) (by omega)]; rfl
  | succ d ih =>
    intro j pre os n q m hj hpre hos hq hm hn hr
    have hlt : j < l.length := by omega
    obtain ⟨o, os, rfl⟩ : ∃ o os', os = o :: os' := by cases os with | nil => simp at hos | cons o os => exact ⟨o, os, rfl⟩
    simp only [List.length_cons, Nat.add_right_cancel_iff] at hos
    rw [drop_cons hlt] at hr
    unfold cin at hr
    have hset : ∀ (y : ByteArray), (pre ++ o :: os).set j y = (pre ++ [y]) ++ os := fun y => by
      rw [List.set_append_right _ _ (by omega)]; simp [hpre]
    by_cases hx : l[j] = (s : Int)
    · rw [if_pos hx] at hr
      obtain ⟨h1, h2⟩ := ih (j + 1) (pre ++ [bitText n s]) os (n + 1) s (n + 1) (by omega) (by simp [hpre]) hos (Nat.le_refl _) (by simp) (by omega) (by rw [List.append_assoc]; exact hr)
      obtain ⟨b1, b2⟩ := bits_ev n s (by omega) (by omega)
      constructor
      · refine Ev.step (f := fun k => (spec_l15Bits.f k (n : Int) (s : Int)).bind fun t => spec_l15Codes.l1 k l (pre ++ [t] ++ os) ((n + 1 : Nat) : Int) (s : Int) l (l.length : Int) ((j + 1 : Nat) : Int)) (fun k => ?_) (Ev.bind b1 h1)
        simp only [spec_l15Codes.l1]
        rw [if_pos (by omega), if_pos (by omega), if_pos (by omega), rdj, getD_at hlt, if_pos hx]
        refine congrArg _ (funext fun t => ?_)
        rw [if_pos (by simp; omega), w64 (x := (n : Int) + 1) (by omega) (by omega), wj (n := l.length) hlt (by omega), Int.toNat_natCast, hset]
        rfl
      · refine Ev.step (f := fun k => (impl_binary.f k (n : Int) (s : Int)).bind fun t => impl_codesOf.l1 k l (pre ++ [t] ++ os) ((n + 1 : Nat) : Int) (s : Int) (s : Int) l (l.length : Int) ((j + 1 : Nat) : Int)) (fun k => ?_) (Ev.bind b2 h2)
        simp only [impl_codesOf.l1]
        rw [if_pos (by omega), if_pos (by omega), if_pos (by omega), rdj, getD_at hlt, if_pos hx, if_pos (by rw [w64 (by omega) (by omega)]; omega), shl_at m q s hq (by omega) (by omega), hm]
        refine congrArg _ (funext fun t => ?_)
        rw [if_pos (by simp; omega), w64 (x := (n : Int) + 1) (by omega) (by omega), wj (n := l.length) hlt (by omega), Int.toNat_natCast, hset]
        rfl
    · rw [if_neg hx] at hr
      obtain ⟨h1, h2⟩ := ih (j + 1) (pre ++ [o]) os n q m (by omega) (by simp [hpre]) hos hq hm (by omega) (by rw [List.append_assoc]; exact hr)
      rw [List.append_assoc] at h1 h2
      constructor
      · refine Ev.step (fun k => ?_) h1
        simp only [spec_l15Codes.l1]
        rw [if_pos (by omega), if_pos (by omega), if_pos (by omega), rdj, getD_at hlt, if_neg hx, wj (n := l.length) hlt (by omega)]
        rfl
      · refine Ev.step (fun k => ?_) h2
        simp only [impl_codesOf.l1]
        rw [if_pos (by omega), if_pos (by omega), if_pos (by omega), rdj, getD_at hlt, if_neg hx, wj (n := l.length) hlt (by omega)]
        rfl
theorem codes_l0 (l : List Int) (hl : l.length ≤ 24) (d : Nat) : ∀ (s : Nat) (out : List ByteArray) (n q m : Nat), s + d = 24 → 1 ≤ s → q + 1 ≤ s → m * 2 ^ (s - 1 - q) = n → n ≤ 24 * 2 ^ (s - 1) - 24 → out.length = l.length →
    Ev (fun k => spec_l15Codes.l0 k l out (n : Int) (s : Int)) (cout l d s out n) ∧ Ev (fun k => impl_codesOf.l0 k l out (m : Int) (q : Int) (s : Int)) (cout l d s out n) := by
  induction d with
  | zero =>
    intro s out n q m hs hs1 hq hm hn ho
    constructor
    · refine Ev.step (f := fun _ => some out) (fun k => ?_) (Ev.now _)
      simp only [spec_l15Codes.l0]; rw [if_neg (by omega)]
    · refine Ev.step (f := fun _ => some out) (fun k => ?_) (Ev.now _)
      simp only [impl_codesOf.l0]; rw [if_neg (by omega)]
  | succ d ih =>
    intro s out n q m hs hs1 hq hm hn ho
    have hp : 2 ^ (s - 1) ≤ 8388608 := Nat.pow_le_pow_right (n := 2) (by decide) (show s - 1 ≤ 23 by omega)
    have hps : 2 ^ s = 2 * 2 ^ (s - 1) := by
      rw [show s = (s - 1) + 1 from by omega, Nat.pow_succ]; simp; omega
    have hp1 : 1 ≤ 2 ^ (s - 1) := Nat.one_le_two_pow
    obtain rfl : d = 23 - s := by omega
    obtain ⟨h1, h2⟩ := codes_l1 l hl s hs1 (by omega) (cout l (23 - s + 1) s out n) (fun out' n' q' m' hq' hm' hn' ho' hr' => by
        have := ih (s + 1) out' n' q' m' (by omega) (by omega) (by omega) (by simpa using hm') (by simpa using hn') ho'
        rw [hr'] at this
        exact this) l.length 0 [] out (2 * n) q m (by omega) rfl ho (by omega) (by rw [← hm, show s - q = (s - 1 - q) + 1 from by omega, Nat.pow_succ]; rw [Nat.mul_comm 2, Nat.mul_assoc]) (by omega) (by rfl)
    constructor
    · refine Ev.step (fun k => ?_) h1
      simp only [spec_l15Codes.l0]
      rw [if_pos (by omega), w64 (by omega) (by omega), show (n : Int) * 2 = ((2 * n : Nat) : Int) from by omega]
      rfl
    · refine Ev.step (fun k => ?_) h2
      simp only [impl_codesOf.l0]
      rw [if_pos (by omega)]
      rfl
theorem codes_ev (l : List Int) (hl : l.length ≤ 24) : Ev (fun k => spec_l15Codes.f k l) (codesP l) ∧ Ev (fun k => impl_codesOf.f k l) (codesP l) := by
  obtain ⟨h1, h2⟩ := codes_l0 l hl 23 1 (List.replicate l.length ⟨#[]⟩) 0 0 0 (by omega) (by omega) (by omega) (by omega) (by omega) (by simp)
  constructor
  · refine Ev.congr (fun k => ?_) h1
    simp only [spec_l15Codes.f]
    rw [if_pos (by omega), if_pos (by omega)]
    rfl
  · refine Ev.congr (fun k => ?_) h2
    simp only [impl_codesOf.f]
    rw [if_pos (by omega), if_pos (by omega)]
    rfl

--IMPORT Derived.Lib.Split
/-- How many of a list are s. -/
def cnt (s : Nat) : List Int → Nat
  | [] => 0
  | x :: xs => (if x = (s : Int) then 1 else 0) + cnt s xs
/-- The first number of the codes of length d + 1. -/
def stp (l : List Int) : Nat → Nat
  | 0 => 0
  | d + 1 => 2 * (stp l d + cnt (d + 1) l)
/-- The number of a code of length a at place i. -/
def numOf (l : List Int) (a i : Nat) : Nat := stp l (a - 1) + cnt a (l.take i)
/-- How much room lengths need, up to one. -/
def roomTo (s : Nat) : List Int → Nat
  | [] => 0
  | x :: xs => (if 1 ≤ x ∧ x ≤ (s : Int) then 2 ^ (23 - x.toNat) else 0) + roomTo s xs
theorem cin_at (s : Nat) : ∀ (l : List Int) (os : List ByteArray) (n i : Nat), l.length = os.length → (h : i < l.length) →
    (cin s l os n).1[i]? = if l[i] = (s : Int) then some (bitText (n + cnt s (l.take i)) s) else os[i]?
  | x :: xs, o :: os, n, 0, _, _ => by
    unfold cin
    by_cases c : x = (s : Int)
    · simp [c, cnt]
    · simp [c]
  | x :: xs, o :: os, n, i + 1, hl, h => by
    have hl' : xs.length = os.length := by simpa using hl
    have h' : i < xs.length := by simpa using h
    unfold cin
    by_cases c : x = (s : Int)
    · rw [if_pos c]
      have := cin_at s xs os (n + 1) i hl' h'
      simp only [List.getElem?_cons_succ, List.getElem_cons_succ, List.take_succ_cons, cnt, if_pos c]
      rw [this, Nat.add_assoc]
    · rw [if_neg c]
      have := cin_at s xs os n i hl' h'
      simp only [List.getElem?_cons_succ, List.getElem_cons_succ, List.take_succ_cons, cnt, if_neg c]
      rw [this, Nat.zero_add]
theorem cin_next (s : Nat) : ∀ (l : List Int) (os : List ByteArray) (n : Nat), l.length = os.length → (cin s l os n).2 = n + cnt s l
  | [], [], _, _ => rfl
  | x :: xs, o :: os, n, hl => by
    have hl' : xs.length = os.length := by simpa using hl
    unfold cin
    by_cases c : x = (s : Int)
    · simp only [if_pos c, cnt]; rw [cin_next s xs os (n + 1) hl']; omega
    · simp only [if_neg c, cnt]; rw [cin_next s xs os n hl']; omega
theorem cout_at (l : List Int) (d : Nat) : ∀ (s : Nat) (out : List ByteArray) (n i : Nat), s + d = 24 → 1 ≤ s → 2 * n = stp l (s - 1) → out.length = l.length → (h : i < l.length) →
    (cout l d s out n)[i]? = if (s : Int) ≤ l[i] ∧ l[i] ≤ 23 then some (bitText (numOf l l[i].toNat i) l[i].toNat) else out[i]? := by
  induction d with
  | zero =>
    intro s out n i hs _ _ _ h
    rw [if_neg (by omega)]; rfl
  | succ d ih =>
    intro s out n i hs h1 hn ho h
    have e := ih (s + 1) (cin s l out (2 * n)).1 (cin s l out (2 * n)).2 i (by omega) (by omega) (by
      rw [cin_next s l out _ ho.symm, hn, show s + 1 - 1 = (s - 1) + 1 from by omega]
      simp only [stp]; rw [show s - 1 + 1 = s from by omega]) (by rw [cin_length s l out _ ho.symm]) h
    simp only [cout]
    rw [e, cin_at s l out _ i ho.symm h, hn]
    by_cases c : l[i] = (s : Int)
    · rw [if_neg (by omega), if_pos c, if_pos (by omega), show l[i].toNat = s from by omega]; rfl
    · rw [if_neg c]
      by_cases c2 : ((s + 1 : Nat) : Int) ≤ l[i] ∧ l[i] ≤ 23
      · rw [if_pos c2, if_pos (by omega)]
      · rw [if_neg c2, if_neg (by omega)]
/-- A length, as a natural number. -/
def lenAt (l : List Int) (i : Nat) : Nat := (l.getD i 0).toNat
theorem cout_length (l : List Int) (d : Nat) : ∀ (s : Nat) (out : List ByteArray) (n : Nat), out.length = l.length → (cout l d s out n).length = l.length := by
  induction d with
  | zero => intro s out n h; exact h
  | succ d ih => intro s out n h; exact ih _ _ _ (cin_length s l out _ h.symm)
theorem codesP_length (l : List Int) : (codesP l).length = l.length := cout_length l 23 1 _ 0 (by simp)
theorem codesP_at (l : List Int) (hl : ∀ n ∈ l, 0 ≤ n ∧ n ≤ 23) (i : Nat) (h : i < l.length) :
    (codesP l)[i]'(by rw [codesP_length]; exact h) = if 1 ≤ lenAt l i then bitText (numOf l (lenAt l i) i) (lenAt l i) else ⟨#[]⟩ := by
  have e := cout_at l 23 1 (List.replicate l.length ⟨#[]⟩) 0 i (by omega) (by omega) rfl (by simp) h
  have hm := hl _ (List.getElem_mem h)
  have e2 : lenAt l i = l[i].toNat := by unfold lenAt; rw [getD_at h]
  rw [← Option.some.injEq, ← List.getElem?_eq_getElem]
  show (cout l 23 1 (List.replicate l.length ⟨#[]⟩) 0)[i]? = _
  rw [e, e2]
  by_cases c : 1 ≤ l[i]
  · rw [if_pos (by omega), if_pos (by omega)]
  · rw [if_neg (by omega), if_neg (by omega)]; simp [h]
theorem cnt_take_lt (l : List Int) (a : Nat) {i j : Nat} (hij : i < j) (h : i < l.length) (hi : l[i] = (a : Int)) : cnt a (l.take i) + 1 ≤ cnt a (l.take j) := by
  induction l generalizing i j with
  | nil => simp at h
  | cons x xs ih =>
    obtain ⟨j, rfl⟩ : ∃ j', j = j' + 1 := ⟨j - 1, by omega⟩
    cases i with
    | zero =>
      simp only [List.getElem_cons_zero] at hi
      simp [cnt, hi]
    | succ i =>
      simp only [List.getElem_cons_succ] at hi
      have := ih (i := i) (j := j) (by omega) (by simpa using h) hi
      simp only [List.take_succ_cons, cnt]; omega
theorem cnt_take_all (l : List Int) (a : Nat) {i : Nat} (h : i < l.length) (hi : l[i] = (a : Int)) : cnt a (l.take i) + 1 ≤ cnt a l := by
  have := cnt_take_lt l a (j := l.length) h h hi
  rwa [List.take_length] at this
theorem stp_grow (l : List Int) (d e : Nat) : (stp l d + cnt (d + 1) l) * 2 ^ (e + 1) ≤ stp l (d + e + 1) := by
  induction e with
  | zero => simp only [stp, Nat.add_zero, Nat.zero_add, Nat.pow_one]; omega
  | succ e ih =>
    have : stp l (d + (e + 1) + 1) = 2 * (stp l (d + e + 1) + cnt (d + (e + 1) + 1) l) := rfl
    rw [this, Nat.pow_succ, ← Nat.mul_assoc]
    omega
theorem roomTo_zero (l : List Int) : roomTo 0 l = 0 := by
  induction l with
  | nil => rfl
  | cons x xs ih => simp only [roomTo, ih]; rw [if_neg (by omega)]
theorem roomTo_succ (s : Nat) (l : List Int) : roomTo (s + 1) l = roomTo s l + cnt (s + 1) l * 2 ^ (23 - (s + 1)) := by
  induction l with
  | nil => simp [roomTo, cnt]
  | cons x xs ih =>
    simp only [roomTo, cnt, ih, Nat.add_mul]
    by_cases c : x = ((s + 1 : Nat) : Int)
    · rw [if_pos (by omega), if_neg (by omega), if_pos c, show x.toNat = s + 1 from by omega]; omega
    · by_cases c2 : 1 ≤ x ∧ x ≤ (s : Int)
      · rw [if_pos (by omega), if_pos c2, if_neg c]; omega
      · rw [if_neg (by omega), if_neg c2, if_neg c]; omega
theorem roomTo_mono (l : List Int) (s d : Nat) : roomTo s l ≤ roomTo (s + d) l := by
  induction d with
  | zero => exact Nat.le_refl _
  | succ d ih => rw [← Nat.add_assoc, roomTo_succ]; omega
theorem stp_room (l : List Int) (d : Nat) : d ≤ 22 → (stp l d + cnt (d + 1) l) * 2 ^ (22 - d) = roomTo (d + 1) l := by
  induction d with
  | zero =>
    intro _
    rw [roomTo_succ, roomTo_zero]; simp [stp]
  | succ d ih =>
    intro hd
    have e := ih (by omega)
    rw [roomTo_succ, ← e]
    simp only [stp]
    rw [show 22 - d = (22 - (d + 1)) + 1 from by omega, Nat.pow_succ, show 23 - (d + 1 + 1) = 22 - (d + 1) from by omega, Nat.add_mul]
    generalize 2 ^ (22 - (d + 1)) = P
    generalize stp l d + cnt (d + 1) l = Q
    rw [Nat.mul_comm 2 Q, Nat.mul_assoc, Nat.mul_comm 2 P]
theorem numOf_room (l : List Int) (a i : Nat) (ha : 1 ≤ a) (ha2 : a ≤ 23) (h : i < l.length) (hi : l[i] = (a : Int)) (hk : roomTo 23 l ≤ 2 ^ 23) : numOf l a i + 1 ≤ 2 ^ a := by
  have h1 := cnt_take_all l a h hi
  have h2 := stp_room l (a - 1) (by omega)
  rw [show a - 1 + 1 = a from by omega, show 22 - (a - 1) = 23 - a from by omega] at h2
  have h3 := roomTo_mono l a (23 - a)
  rw [show a + (23 - a) = 23 from by omega] at h3
  have h4 : (numOf l a i + 1) * 2 ^ (23 - a) ≤ 2 ^ a * 2 ^ (23 - a) := by
    rw [← Nat.pow_add, show a + (23 - a) = 23 from by omega]
    refine Nat.le_trans (Nat.mul_le_mul_right _ (show numOf l a i + 1 ≤ stp l (a - 1) + cnt a l by unfold numOf; omega)) ?_
    omega
  exact Nat.le_of_mul_le_mul_right h4 (Nat.two_pow_pos _)
theorem numOf_order (l : List Int) {a b i j : Nat} (ha : 1 ≤ a) (h : i < l.length) (hi : l[i] = (a : Int)) (hab : a < b ∨ a = b ∧ i < j) : (numOf l a i + 1) * 2 ^ (b - a) ≤ numOf l b j := by
  rcases hab with hab | ⟨rfl, hij⟩
  · have h1 := cnt_take_all l a h hi
    have h2 := stp_grow l (a - 1) (b - a - 1)
    rw [show a - 1 + 1 = a from by omega, show b - a - 1 + 1 = b - a from by omega, show a - 1 + (b - a - 1) + 1 = b - 1 from by omega] at h2
    refine Nat.le_trans (Nat.mul_le_mul_right _ (show numOf l a i + 1 ≤ stp l (a - 1) + cnt a l by unfold numOf; omega)) ?_
    unfold numOf; omega
  · have h1 := cnt_take_lt l a hij h hi
    rw [Nat.sub_self]; unfold numOf; omega
/-- The bytes of a number in so many bits, as bytes. -/
def bitBytes (n s : Nat) : List UInt8 := (List.range s).map fun i => UInt8.ofNat (48 + n / 2 ^ (s - 1 - i) % 2)
theorem bitText_data (n s : Nat) : (bitText n s).data.toList = bitBytes n s := by
  unfold bitText bitBytes bitNums
  rw [strOfNums_data, List.map_map]
  refine List.map_congr_left fun i _ => ?_
  simp only [Function.comp, bitNum]; rw [Int.toNat_natCast]
theorem bitText_size (n s : Nat) : (bitText n s).size = s := by unfold bitText; rw [strOfNums_size, bitNums_length]
theorem bitBytes_at (n s i : Nat) (h : i < s) : (bitBytes n s)[i]? = some (UInt8.ofNat (48 + n / 2 ^ (s - 1 - i) % 2)) := by simp [bitBytes, h]
theorem bit_inj {x y : Nat} (hx : x < 2) (hy : y < 2) (h : UInt8.ofNat (48 + x) = UInt8.ofNat (48 + y)) : x = y := by
  have e := congrArg UInt8.toNat h
  simp only [UInt8.toNat_ofNat'] at e
  omega
theorem same_bits {n m a : Nat} (hn : n < 2 ^ a) (hm : m < 2 ^ a) (h : ∀ i, i < a → n / 2 ^ i % 2 = m / 2 ^ i % 2) : n = m := by
  refine Nat.eq_of_testBit_eq fun i => ?_
  by_cases c : i < a
  · rw [Nat.testBit_eq_decide_div_mod_eq, Nat.testBit_eq_decide_div_mod_eq, h i c]
  · have e : 2 ^ a ≤ 2 ^ i := Nat.pow_le_pow_right (by decide) (by omega)
    rw [Nat.testBit_lt_two_pow (by omega), Nat.testBit_lt_two_pow (by omega)]
theorem prefix_bits {n m a b : Nat} (hab : a ≤ b) (hn : n < 2 ^ a) (hm : m < 2 ^ b) (h : (bitBytes m b).take a = bitBytes n a) : m / 2 ^ (b - a) = n := by
  refine same_bits (a := a) (Nat.div_lt_of_lt_mul (by rw [← Nat.pow_add, show b - a + a = b from by omega]; exact hm)) hn fun i hi => ?_
  have e := congrArg (fun l => l[a - 1 - i]?) h
  simp only [List.getElem?_take] at e
  rw [if_pos (by omega), bitBytes_at _ _ _ (by omega), bitBytes_at _ _ _ (by omega)] at e
  have e2 := bit_inj (Nat.mod_lt _ (by decide)) (Nat.mod_lt _ (by decide)) (Option.some.inj e)
  rw [show a - 1 - (a - 1 - i) = i from by omega, show b - 1 - (a - 1 - i) = (b - a) + i from by omega, Nat.pow_add, ← Nat.div_div_eq_div_mul] at e2
  exact e2
theorem bitBytes_cons (n s : Nat) : bitBytes n (s + 1) = UInt8.ofNat (48 + n / 2 ^ s % 2) :: bitBytes n s := by
  unfold bitBytes
  rw [List.range_succ_eq_map, List.map_cons, List.map_map]
  refine List.cons_eq_cons.2 ⟨by simp, List.map_congr_left fun i _ => ?_⟩
  simp only [Function.comp]
  rw [show s + 1 - 1 - (i + 1) = s - 1 - i from by omega]
theorem less_bits (s : Nat) : ∀ (n m : Nat), n % 2 ^ s < m % 2 ^ s → Op.bytesLess (bitBytes n s) (bitBytes m s) = true := by
  induction s with
  | zero => intro n m h; simp [Nat.mod_one] at h
  | succ s ih =>
    intro n m h
    rw [bitBytes_cons, bitBytes_cons]
    rw [Nat.pow_succ, Nat.mod_mul, Nat.mod_mul] at h
    have hn := Nat.mod_lt (n / 2 ^ s) (show 0 < 2 by decide)
    have hm := Nat.mod_lt (m / 2 ^ s) (show 0 < 2 by decide)
    have hn2 := Nat.mod_lt n (Nat.two_pow_pos s)
    have hm2 := Nat.mod_lt m (Nat.two_pow_pos s)
    generalize n / 2 ^ s % 2 = x at *
    generalize m / 2 ^ s % 2 = y at *
    simp only [Op.bytesLess, Bool.or_eq_true, Bool.and_eq_true, decide_eq_true_eq, beq_iff_eq]
    obtain rfl | rfl : x = 0 ∨ x = 1 := by omega
    · obtain rfl | rfl : y = 0 ∨ y = 1 := by omega
      · exact .inr ⟨rfl, ih n m (by omega)⟩
      · exact .inl (by decide)
    · obtain rfl | rfl : y = 0 ∨ y = 1 := by omega
      · exfalso; omega
      · exact .inr ⟨rfl, ih n m (by omega)⟩

/-- What the lengths come to, as both tell it. -/
theorem right_ev (l : List Int) (hn : l.length ≤ 1048576) : ∃ b, Ev (fun k => spec_l15Right.f k l) b ∧ Ev (fun k => impl_areRight.f k l) b ∧ (b = true → lenB l = true) := by
  cases hb : lenB l with
  | false =>
    refine ⟨false, ?_, ?_, fun h => by cases h⟩
    · unfold spec_l15Right.f
      refine Ev.bind (by have := l15Lengths_ev l hn; rwa [hb] at this) ?_
      exact Ev.congr (fun k => by simp) (Ev.now _)
    · exact Ev.congr (f := fun _ => some false) (fun k => by simp [impl_areRight.f, areLengths_eq, hb]) (Ev.now _)
  | true =>
    obtain ⟨r, h1, h2⟩ := kraft_both l ((lenB_iff l).1 hb).2 hn
    refine ⟨decide (r ≤ 8388608), ?_, ?_, fun _ => rfl⟩
    · unfold spec_l15Right.f
      refine Ev.bind (by have := l15Lengths_ev l hn; rwa [hb] at this) ?_
      simp only [if_true]
      exact Ev.bind h2 (Ev.now _)
    · refine Ev.congr (f := fun k => (impl_kraft.f k l).bind fun t => some (decide (t ≤ 8388608))) (fun k => by simp [impl_areRight.f, areLengths_eq, hb]) (Ev.bind h1 (Ev.now _))

theorem markIntS_l {n : Nat} (hn : n ≤ 1048576) (d : Nat) : ∀ (l : List Int) (c j : Nat), l.length = n → j + d = n → c ≤ 2097152 + j → ∃ l', Ev (fun k => laws_markIntS.l0 k l (c : Int) (j : Int)) (((c + d : Nat) : Int), l') := by
  induction d with
  | zero =>
    intro l c j hl hj hc
    refine ⟨l, Ev.step (f := fun _ => some (((c : Nat) : Int), l)) (fun k => ?_) (Ev.now _)⟩
    simp only [laws_markIntS.l0]; rw [if_neg (by omega)]
  | succ d ih =>
    intro l c j hl hj hc
    obtain ⟨l', h⟩ := ih (l.set j (c : Int)) (c + 1) (j + 1) (by simpa using hl) (by omega) (by omega)
    rw [show c + 1 + d = c + (d + 1) from by omega] at h
    refine ⟨l', Ev.step (fun k => ?_) h⟩
    simp only [laws_markIntS.l0]
    rw [if_pos (by omega), if_pos (by omega), w64 (x := (c : Int) + 1) (by omega) (by omega), wj (j := j) (n := n) (by omega) (by omega)]
    rfl
theorem markIntS_ev (l : List Int) (hn : l.length ≤ 1048576) : ∃ l', Ev (fun k => laws_markIntS.f k l 1) (((1 + l.length : Nat) : Int), l') := by
  obtain ⟨l', h⟩ := markIntS_l (n := l.length) hn l.length l 1 0 rfl (by omega) (by omega)
  exact ⟨l', h⟩

theorem markIntB_l {n : Nat} (hn : n ≤ 1048576) (d : Nat) : ∀ (l : List Int) (c j : Nat), l.length = n → j + d = n → c ≤ 2097152 + j →
    ∃ l', Ev (fun k => laws_markIntS.l0 k l (c : Int) (j : Int)) (((c + d : Nat) : Int), l') ∧ l'.length = n ∧ (∀ i, i < j → l'[i]? = l[i]?) ∧ ∀ i, j ≤ i → i < n → l'[i]? = some ((c + (i - j) : Nat) : Int) := by
  induction d with
  | zero =>
    intro l c j hl hj hc
    refine ⟨l, Ev.step (f := fun _ => some (((c : Nat) : Int), l)) (fun k => ?_) (Ev.now _), hl, fun _ _ => rfl, fun i h1 h2 => by omega⟩
    simp only [laws_markIntS.l0]; rw [if_neg (by omega)]
  | succ d ih =>
    intro l c j hl hj hc
    obtain ⟨l', h, h1, h2, h3⟩ := ih (l.set j (c : Int)) (c + 1) (j + 1) (by simpa using hl) (by omega) (by omega)
    rw [show c + 1 + d = c + (d + 1) from by omega] at h
    refine ⟨l', Ev.step (fun k => ?_) h, h1, fun i hi => ?_, fun i hi hi' => ?_⟩
    · simp only [laws_markIntS.l0]
      rw [if_pos (by omega), if_pos (by omega), w64 (x := (c : Int) + 1) (by omega) (by omega), wj (j := j) (n := n) (by omega) (by omega)]
      rfl
    · rw [h2 i (by omega), List.getElem?_set_ne (by omega)]
    · by_cases e : i = j
      · subst e
        rw [h2 i (by omega), List.getElem?_set_self (by omega)]
        simp
      · rw [h3 i (by omega) hi', show c + 1 + (i - (j + 1)) = c + (i - j) from by omega]
theorem heldIntS_l (l : List Int) (hn : l.length ≤ 1048576) (b : Nat) (hb : b ≤ 2097152) (hl : ∀ i, i < l.length → l[i]? = some ((b + i : Nat) : Int)) (d : Nat) : ∀ (j : Nat), j + d = l.length →
    Ev (fun k => laws_heldIntS.l0 k l ((b + j : Nat) : Int) (j : Int)) ((b + l.length : Nat) : Int) := by
  induction d with
  | zero =>
    intro j hj
    obtain rfl : j = l.length := by omega
    refine Ev.step (f := fun _ => some ((b + l.length : Nat) : Int)) (fun k => ?_) (Ev.now _)
    simp only [laws_heldIntS.l0]; rw [if_neg (by omega)]
  | succ d ih =>
    intro j hj
    have hlt : j < l.length := by omega
    refine Ev.step (fun k => ?_) (ih (j + 1) (by omega))
    simp only [laws_heldIntS.l0]
    rw [if_pos (by omega), if_pos (by omega), rdj, getD_at hlt, if_pos (by
      have := hl j hlt
      rw [List.getElem?_eq_getElem hlt] at this
      exact Option.some.inj this)]
    rw [w64 (x := ((b + j : Nat) : Int) + 1) (by omega) (by omega), wj (j := j) (n := l.length) hlt (by omega)]
    rfl
/-- What is marked is held. -/
theorem markInt_both (l : List Int) (hn : l.length ≤ 1048576) : ∃ l', Ev (fun k => laws_markIntS.f k l 1) (((1 + l.length : Nat) : Int), l') ∧ Ev (fun k => laws_heldIntS.f k l' 1) ((1 + l.length : Nat) : Int) := by
  obtain ⟨l', h, h1, _, h3⟩ := markIntB_l (n := l.length) hn l.length l 1 0 rfl (by omega) (by omega)
  refine ⟨l', h, ?_⟩
  have := heldIntS_l l' (by omega) 1 (by omega) (fun i hi => by rw [h3 i (by omega) (by omega)]; rfl) l'.length 0 (by omega)
  rw [h1] at this
  exact this

--IMPORT Derived.Lib.Split
theorem dsize (c : ByteArray) : c.data.toList.length = c.size := Array.length_toList
theorem bt_at_nat (s : ByteArray) (i : Nat) (h : i < s.size) : bt s (i : Int) = ((s.data.toList[i]'(by rw [dsize]; exact h)).toNat : Int) := by
  unfold bt
  rw [dif_pos (by simpa using h)]
  rfl
def IsBit (x : UInt8) : Prop := x = 48 ∨ x = 49
instance (x : UInt8) : Decidable (IsBit x) := by unfold IsBit; infer_instance
theorem isBit_iff (x : UInt8) : ([48, 49] : List UInt8).contains x = true ↔ IsBit x := by
  unfold IsBit; simp
theorem dropWhile_nil {p : UInt8 → Bool} : ∀ l : List UInt8, l.dropWhile p = [] ↔ ∀ x ∈ l, p x = true
  | [] => by simp
  | x :: xs => by
    rw [List.dropWhile_cons]
    by_cases h : p x = true
    · rw [if_pos h, dropWhile_nil xs]; simp [h]
    · rw [if_neg h]; simp [h]
theorem trim_bits (l : List UInt8) : (Lib.trimS l [48, 49]).isEmpty = true ↔ ∀ x ∈ l, IsBit x := by
  rw [List.isEmpty_iff]
  unfold Lib.trimS Lib.trimLeftS Lib.trimRightS
  rw [dropWhile_nil]
  constructor
  · intro h
    -- what is left behind the trim on the right is all bits, and ends with none
    by_cases e : l.reverse.dropWhile (fun x => ([48, 49] : List UInt8).contains x) = []
    · intro x hx
      have := (dropWhile_nil l.reverse).1 e x (by simpa using hx)
      exact (isBit_iff x).1 this
    · exfalso
      have h1 := h ((l.reverse.dropWhile (fun x => ([48, 49] : List UInt8).contains x)).head e) (by simp)
      have h2 := List.head_dropWhile_not (fun x => ([48, 49] : List UInt8).contains x) e
      rw [h1] at h2
      simp at h2
  · intro h
    have e : l.reverse.dropWhile (fun x => ([48, 49] : List UInt8).contains x) = [] :=
      (dropWhile_nil l.reverse).2 fun x hx => (isBit_iff x).2 (h x (by simpa using hx))
    rw [e]; simp
theorem bitText_l (s : ByteArray) (hn : s.size ≤ 1048576) (d : Nat) : ∀ (j : Nat), j + d = s.size → 
    ((∀ x ∈ s.data.toList.drop j, IsBit x) → Ev (fun k => spec_l15BitText.l0 k s (j : Int)) (decide ((s.size : Int) ≤ 4000))) ∧ (¬ (∀ x ∈ s.data.toList.drop j, IsBit x) → Ev (fun k => spec_l15BitText.l0 k s (j : Int)) false) := by
  induction d with
  | zero =>
    intro j hj
    rw [List.drop_eq_nil_of_le (by rw [dsize]; omega)]
    refine ⟨fun _ => Ev.step (f := fun _ => some (decide ((s.size : Int) ≤ 4000))) (fun k => ?_) (Ev.now _), fun h => absurd (fun x hx => absurd hx (by simp)) h⟩
    simp only [spec_l15BitText.l0]; rw [if_neg (by omega)]
  | succ d ih =>
    intro j hj
    have hlt : j < s.size := by omega
    have hlt2 : j < s.data.toList.length := by rw [dsize]; exact hlt
    obtain ⟨i1, i2⟩ := ih (j + 1) (by omega)
    rw [List.drop_eq_getElem_cons hlt2]
    have hb := bt_at_nat s j hlt
    by_cases c : IsBit s.data.toList[j]
    · have step : ∀ k, spec_l15BitText.l0 (k + 1) s (j : Int) = spec_l15BitText.l0 k s ((j + 1 : Nat) : Int) := by
        intro k
        simp only [spec_l15BitText.l0]
        rw [if_pos (by omega), if_pos (by omega), hb, wj (n := s.size) hlt (by omega)]
        rcases c with c | c
        · rw [c, if_pos (by decide)]
        · rw [c, if_neg (by decide), if_pos (by decide)]
      refine ⟨fun h => Ev.step step (i1 fun x hx => h x (List.mem_cons_of_mem _ hx)), fun h => Ev.step step (i2 fun h2 => h ?_)⟩
      intro x hx
      rcases List.mem_cons.1 hx with hx | hx
      · rw [hx]; exact c
      · exact h2 x hx
    · refine ⟨fun h => absurd (h _ List.mem_cons_self) c, fun _ => Ev.step (f := fun _ => some false) (fun k => ?_) (Ev.now _)⟩
      simp only [spec_l15BitText.l0]
      rw [if_pos (by omega), if_pos (by omega), hb]
      have n48 : ¬ ((s.data.toList[j].toNat : Int) = 48) := fun e => c (.inl (UInt8.toNat_inj.1 (by show s.data.toList[j].toNat = 48; omega)))
      have n49 : ¬ ((s.data.toList[j].toNat : Int) = 49) := fun e => c (.inr (UInt8.toNat_inj.1 (by show s.data.toList[j].toNat = 49; omega)))
      rw [if_neg n48, if_neg n49]
theorem bitText_both (s : ByteArray) (hn : s.size ≤ 1048576) : ∃ b, Ev (fun k => spec_l15BitText.f k s) b ∧ impl_areBits.f s = some b := by
  obtain ⟨h1, h2⟩ := bitText_l s hn s.size 0 (by omega)
  rw [List.drop_zero] at h1 h2
  have ht := trim_bits s.data.toList
  unfold impl_areBits.f
  by_cases c : ∀ x ∈ s.data.toList, IsBit x
  · refine ⟨_, h1 c, ?_⟩
    by_cases c2 : (s.size : Int) ≤ 4000
    · rw [if_pos c2, ht.2 c, decide_eq_true c2]
    · rw [if_neg c2, decide_eq_false c2]
  · refine ⟨_, h2 c, ?_⟩
    by_cases c2 : (s.size : Int) ≤ 4000
    · rw [if_pos c2, Bool.eq_false_iff.2 (fun e => c (ht.1 e))]
    · rw [if_neg c2]
theorem beg_iff (b c : ByteArray) : decBeg b c = true ↔ c.toList ≠ [] ∧ c.size ≤ b.size ∧ (b.extract 0 c.size).toList = c.toList := by
  unfold decBeg Lib.hasPrefix
  rw [Bool.and_eq_true, List.isPrefixOf_iff_prefix, List.prefix_iff_eq_take, Bool.not_eq_true', List.isEmpty_eq_false_iff, ByteArray.toList_eq, ByteArray.toList_eq, Lib.extract_from_zero, dsize]
  refine and_congr_right fun _ => ⟨fun h => ⟨?_, h.symm⟩, fun h => h.2.symm⟩
  have := congrArg List.length h
  rw [List.length_take, dsize, dsize] at this
  omega
theorem fnd_ge (b : ByteArray) : ∀ (cs : List ByteArray) (i : Nat), decFnd b cs i = -1 ∨ ∃ j, i ≤ j ∧ j < i + cs.length ∧ decFnd b cs i = (j : Int) ∧ decBeg b (cs.getD (j - i) ByteArray.empty) = true
  | [], _ => .inl rfl
  | c :: cs, i => by
    unfold decFnd
    by_cases h : decBeg b c = true
    · rw [if_pos h]
      exact .inr ⟨i, Nat.le_refl _, by simp, rfl, by simpa using h⟩
    · rw [if_neg h]
      have e : ((i : Int) + 1) = ((i + 1 : Nat) : Int) := by omega
      rw [e]
      rcases fnd_ge b cs (i + 1) with h2 | ⟨j, h2, h3, h4, h5⟩
      · exact .inl h2
      · refine .inr ⟨j, by omega, by simp; omega, h4, ?_⟩
        rw [show j - i = (j - (i + 1)) + 1 from by omega]
        simpa using h5
theorem scan_l (bits : ByteArray) (cs : List ByteArray) (out : List Int) (hcs : cs.length ≤ 100) (ho : out.length ≤ 200) (R : List Int × Bool)
    (H1 : decFnd bits cs 0 < 0 → R = ([], false)) (H2 : 0 ≤ decFnd bits cs 0 → (out.length : Int) = 200 → R = ([], false))
    (H3 : 0 ≤ decFnd bits cs 0 → ¬ (out.length : Int) = 200 → Ev (fun k => spec_DecodeBits.l0 k (bits.extract (cs.getD (decFnd bits cs 0).toNat ByteArray.empty).size bits.size) cs (out ++ [decFnd bits cs 0])) R) (d : Nat) :
    ∀ (j : Nat), j + d = cs.length → decFnd bits (cs.drop j) j = decFnd bits cs 0 → Ev (fun k => spec_DecodeBits.l1 k bits cs out (-1) cs (cs.length : Int) (j : Int)) R := by
  induction d with
  | zero =>
    intro j hj he
    rw [List.drop_eq_nil_of_le (by omega)] at he
    have hr := H1 (by rw [← he]; show (-1 : Int) < 0; decide)
    refine Ev.step (f := fun _ => some R) (fun k => ?_) (Ev.now _)
    simp only [spec_DecodeBits.l1]
    rw [if_neg (by omega), if_pos (by decide), hr]
  | succ d ih =>
    intro j hj he
    have hlt : j < cs.length := by omega
    have hrd : rdOf ByteArray.empty cs (j : Int) = cs[j] := getD_at hlt _
    rw [List.drop_eq_getElem_cons hlt] at he
    have hi := ih (j + 1) (by omega)
    rw [show decFnd bits (cs[j] :: cs.drop (j + 1)) (j : Int) = if decBeg bits cs[j] = true then (j : Int) else decFnd bits (cs.drop (j + 1)) ((j : Int) + 1) from rfl] at he
    have hb := beg_iff bits cs[j]
    by_cases c : decBeg bits cs[j] = true
    · rw [if_pos c] at he
      obtain ⟨g1, g2, g3⟩ := hb.1 c
      by_cases c2 : (out.length : Int) = 200
      · have hr := H2 (by omega) c2
        refine Ev.step (f := fun _ => some R) (fun k => ?_) (Ev.now _)
        simp only [spec_DecodeBits.l1, hrd, Int.toNat_natCast]
        rw [if_pos (by omega), if_pos (by omega), if_pos (by omega), if_neg g1, if_pos (by omega), if_pos (by omega), if_pos g3, if_neg (by omega), if_pos c2, hr]
      · have g := H3 (by omega) c2
        rw [← he, Int.toNat_natCast, getD_at hlt] at g
        refine Ev.step (fun k => ?_) g
        simp only [spec_DecodeBits.l1, hrd, Int.toNat_natCast]
        rw [if_pos (by omega), if_pos (by omega), if_pos (by omega), if_neg g1, if_pos (by omega), if_pos (by omega), if_pos g3, if_neg (by omega), if_neg c2, if_pos (by omega), if_pos (by omega), if_pos (by omega), if_pos (by omega)]
    · rw [if_neg c] at he
      have g := hi (by rw [← he, show ((j + 1 : Nat) : Int) = (j : Int) + 1 from by omega])
      refine Ev.step (fun k => ?_) g
      simp only [spec_DecodeBits.l1, hrd, Int.toNat_natCast]
      rw [if_pos (by omega), if_pos (by omega), if_pos (by omega), wj (n := cs.length) hlt (by omega)]
      by_cases g1 : cs[j].toList = []
      · rw [if_pos g1]
      · rw [if_neg g1]
        by_cases g2 : (cs[j].size : Int) ≤ (bits.size : Int)
        · rw [if_pos g2, if_pos (by omega)]
          by_cases g3 : (bits.extract 0 cs[j].size).toList = cs[j].toList
          · exact absurd (hb.2 ⟨g1, by omega, g3⟩) c
          · rw [if_neg g3]
        · rw [if_neg g2]
theorem decode_l (cs : List ByteArray) (hcs : cs.length ≤ 100) (m : Nat) : ∀ (bits : ByteArray) (out : List Int), bits.size ≤ m → out.length ≤ 200 →
    ∃ R : List Int × Bool, Ev (fun k => spec_DecodeBits.l0 k bits cs out) R ∧ Ev (fun k => impl_DecodeBits.l0 k cs bits out) R ∧ R.1.length ≤ 200 := by
  induction m with
  | zero =>
    intro bits out hb ho
    have e : bits.toList = [] := by
      rw [ByteArray.toList_eq]; exact List.eq_nil_of_length_eq_zero (by rw [dsize]; omega)
    refine ⟨(out, true), Ev.step (f := fun _ => some (out, true)) (fun k => ?_) (Ev.now _), Ev.step (f := fun _ => some (out, true)) (fun k => ?_) (Ev.now _), ho⟩
    · simp only [spec_DecodeBits.l0]; rw [if_pos e]
    · simp only [impl_DecodeBits.l0]; rw [if_pos e]
  | succ m ih =>
    intro bits out hb ho
    by_cases e : bits.toList = []
    · refine ⟨(out, true), Ev.step (f := fun _ => some (out, true)) (fun k => ?_) (Ev.now _), Ev.step (f := fun _ => some (out, true)) (fun k => ?_) (Ev.now _), ho⟩
      · simp only [spec_DecodeBits.l0]; rw [if_pos e]
      · simp only [impl_DecodeBits.l0]; rw [if_pos e]
    · have spec : ∀ R, Ev (fun k => spec_DecodeBits.l1 k bits cs out (-1) cs (cs.length : Int) ((0 : Nat) : Int)) R → Ev (fun k => spec_DecodeBits.l0 k bits cs out) R := fun R h =>
        Ev.step (fun k => by simp only [spec_DecodeBits.l0]; rw [if_neg e]; rfl) h
      rcases fnd_ge bits cs 0 with h | ⟨j, _, h3, h4, h5⟩
      · have h : decFnd bits cs 0 = -1 := h
        refine ⟨([], false), spec _ (scan_l bits cs out hcs ho _ (fun _ => rfl) (fun h2 => by omega) (fun h2 => by omega) cs.length 0 (by omega) rfl), Ev.step (f := fun _ => some ([], false)) (fun k => ?_) (Ev.now _), by simp⟩
        simp only [impl_DecodeBits.l0, h]
        rw [if_neg e, if_pos (by omega)]
      · have h4 : decFnd bits cs 0 = (j : Int) := h4
        have hj : j < cs.length := by omega
        rw [Nat.sub_zero, getD_at hj] at h5
        obtain ⟨g1, g2, g3⟩ := (beg_iff bits cs[j]).1 h5
        have g4 : 1 ≤ cs[j].size := by
          rcases Nat.eq_zero_or_pos cs[j].size with z | z
          · exact absurd (by rw [ByteArray.toList_eq]; exact List.eq_nil_of_length_eq_zero (by rw [dsize]; exact z)) g1
          · exact z
        by_cases c2 : (out.length : Int) = 200
        · refine ⟨([], false), spec _ (scan_l bits cs out hcs ho _ (fun _ => rfl) (fun _ _ => rfl) (fun _ h2 => absurd c2 h2) cs.length 0 (by omega) rfl), Ev.step (f := fun _ => some ([], false)) (fun k => ?_) (Ev.now _), by simp⟩
          simp only [impl_DecodeBits.l0, h4]
          rw [if_neg e, if_neg (by omega), if_pos c2]
        · have hs : (bits.extract cs[j].size bits.size).size ≤ m := by
            rw [← dsize, Lib.extract_data, List.length_take, List.length_drop, dsize]; omega
          obtain ⟨R, r1, r2, r3⟩ := ih (bits.extract cs[j].size bits.size) (out ++ [(j : Int)]) hs (by simp; omega)
          refine ⟨R, spec _ (scan_l bits cs out hcs ho _ (fun h2 => by omega) (fun _ h2 => absurd h2 c2) (fun _ _ => ?_) cs.length 0 (by omega) rfl), Ev.step (fun k => ?_) r2, r3⟩
          · rw [h4, Int.toNat_natCast, getD_at hj]; exact r1
          · have hrd : rdOf ByteArray.empty cs (j : Int) = cs[j] := getD_at hj _
            simp only [impl_DecodeBits.l0, h4, hrd]
            rw [if_neg e, if_neg (by omega), if_neg c2, if_pos (by omega), if_pos (by omega), if_pos g2]
theorem DecodeBits_both (l : List Int) (s : ByteArray) (hn : l.length ≤ 1048576) (hs : s.size ≤ 1048576) : ∃ r : List Int × Bool, Ev (fun k => spec_DecodeBits.f k l s) r ∧ Ev (fun k => impl_DecodeBits.f k l s) r ∧ r.1.length ≤ 1048576 := by
  obtain ⟨b, h1, h2, h3⟩ := right_ev l hn
  obtain ⟨u, u1, u2⟩ := bitText_both s hs
  have sj : Ev (fun k => spec_DecodeBits.j0 k l s true) ([], false) :=
    Ev.step (f := fun _ => some ([], false)) (fun k => by simp [spec_DecodeBits.j0]) (Ev.now _)
  cases b with
  | false =>
    refine ⟨([], false), ?_, ?_, by simp⟩
    · unfold spec_DecodeBits.f; exact Ev.bind h1 (Ev.congr (fun k => by rw [if_neg (by simp)]) sj)
    · unfold impl_DecodeBits.f; exact Ev.bind h2 (Ev.congr (f := fun _ => some ([], false)) (fun k => by simp) (Ev.now _))
  | true =>
    cases u with
    | false =>
      refine ⟨([], false), ?_, ?_, by simp⟩
      · unfold spec_DecodeBits.f
        refine Ev.bind h1 ?_
        simp only [if_true]
        exact Ev.bind u1 sj
      · unfold impl_DecodeBits.f
        refine Ev.bind h2 (Ev.congr (f := fun _ => some ([], false)) (fun k => ?_) (Ev.now _))
        rw [if_pos rfl, u2]; simp
    | true =>
      obtain ⟨hl, hm⟩ := (lenB_iff l).1 (h3 rfl)
      obtain ⟨c1, c2⟩ := codes_ev l (by omega)
      have hc : (codesP l).length ≤ 100 := by
        have : (codesP l).length = l.length := codesP_length l
        omega
      obtain ⟨R, r1, r2, r3⟩ := decode_l (codesP l) hc s.size s [] (Nat.le_refl _) (by simp)
      refine ⟨R, ?_, ?_, by omega⟩
      · unfold spec_DecodeBits.f
        refine Ev.bind h1 ?_
        simp only [if_true]
        refine Ev.bind u1 ?_
        refine Ev.step (f := fun k => (spec_l15Codes.f k l).bind fun t119 => spec_DecodeBits.l0 k s t119 []) (fun k => by simp [spec_DecodeBits.j0]) ?_
        exact Ev.bind c1 r1
      · unfold impl_DecodeBits.f
        refine Ev.bind h2 ?_
        simp only [if_true, u2, Option.bind_some]
        exact Ev.bind c2 r2

theorem FnExactDecodeBits : laws_FnExactDecodeBits.Pure := by
  intro l s _ _ _ _
  refine Ev.law ?_
  unfold laws_FnExactDecodeBits.f
  by_cases hn : (l.length : Int) > 1048576
  · exact Ev.congr (fun k => by rw [if_pos hn]) (Ev.now _)
  by_cases hs : (s.size : Int) > 1048576
  · exact Ev.congr (fun k => by rw [if_neg hn, if_pos hs]) (Ev.now _)
  simp only [if_neg hn, if_neg hs]
  obtain ⟨⟨c, b⟩, h2, h1, hc⟩ := DecodeBits_both l s (by omega) (by omega)
  obtain ⟨lm, hm⟩ := markIntS_ev l (by omega)
  obtain ⟨c', m1, m2⟩ := markInt_both c hc
  have t0 := toIntS_ev l (by omega)
  refine Ev.bind t0 (Ev.bind h2 (Ev.bind t0 (Ev.bind h1 (Ev.bind (eqIntS_ev c hc) ?_))))
  simp only [if_true, bne_self_eq_false]
  have J2 : Ev (fun k => laws_FnExactDecodeBits.j2 k c' ((1 + c.length : Nat) : Int) false) true := by
    refine Ev.step (f := fun k => (laws_heldIntS.f k c' 1).bind fun t192 => if t192 < 0 then some false else if t192 = ((1 + c.length : Nat) : Int) then some true else some false) (fun k => by simp [laws_FnExactDecodeBits.j2]) (Ev.bind m2 ?_)
    exact Ev.congr (f := fun _ => some true) (fun k => by rw [if_neg (by omega), if_pos rfl]) (Ev.now _)
  have J1 : Ev (fun k => laws_FnExactDecodeBits.j1 k l s c b c false) true := by
    refine Ev.step (fun k => by simp only [laws_FnExactDecodeBits.j1]; rw [if_neg (by simp)]) (Ev.bind m1 (Ev.bind m2 ?_))
    have e1 : ¬ (((1 + c.length : Nat) : Int) < 0) := by omega
    simp only [if_neg e1, if_true]
    refine Ev.bind t0 (Ev.bind h1 (Ev.bind (eqIntS_ev c hc) ?_))
    simp only [if_true, bne_self_eq_false]
    exact J2
  refine Ev.step (fun k => by simp only [laws_FnExactDecodeBits.j0]; rw [if_neg (by simp)]) (Ev.bind t0 (Ev.bind (eqIntS_ev l (by omega)) ?_))
  simp only [if_true]
  refine Ev.bind hm ?_
  have e2 : ¬ (((1 + l.length : Nat) : Int) < 0) := by omega
  simp only [if_neg e2]
  refine Ev.bind (eqIntS_ev c hc) ?_
  simp only [if_true, bne_self_eq_false]
  exact J1

end Go.Proofs.YtobbhgghpjecjaaDoor.Pure
