/- The two programs' codes of symbols are alike. -/
import Derived.Test.YtagkaanogeafoaaPFnExactEncodeBitsx3
import Derived.Lib.RabinKarpLaws
import Derived.Lib.Split
namespace Go.Proofs.Ytagkaanogeafoaa.Pure
open Go.RowKit Go.Proofs.Ytagkaanogeafoaa.PFnExactEncodeBits Go.Proofs.YtagkaanogeafoaaW.PrintWords Go.Proofs.YtagkaanogeafoaaW.PrintLast Go.Proofs.YtagkaanogeafoaaW.PrintMore Go.Proofs.YtagkaanogeafoaaOwn
set_option linter.unusedVariables false
set_option linter.unusedSimpArgs false

theorem wj {j n : Nat} (h : j < n) (hn : n ≤ 4611686018427387904) : wrap64 ((j : Int) + 1) = ((j + 1 : Nat) : Int) := by
  unfold wrap64; omega
theorem w64 {x : Int} (h0 : -9223372036854775808 ≤ x) (h1 : x ≤ 9223372036854775807) : wrap64 x = x := by
  unfold wrap64; omega
theorem rdj (l : List Int) (j : Nat) : rd l (j : Int) = l.getD j 0 := rfl
theorem getD_at {α : Type} {l : List α} {j : Nat} (h : j < l.length) (z : α) : l.getD j z = l[j] := by
  rw [List.getD_eq_getElem?_getD, List.getElem?_eq_getElem h]; rfl
theorem Ev.law {g : Nat → Option Bool} (h : Ev g true) : ∃ k, g k = some true := h.rounds
theorem wf_i64 {x : Int} (h : (Lit.int .i64 x).wf = true) : -9223372036854775808 ≤ x ∧ x ≤ 9223372036854775807 := by
  simp only [Lit.wf, IntKind.min, IntKind.max, IntKind.signed, IntKind.bits, Bool.and_eq_true, decide_eq_true_eq, if_true] at h
  omega

theorem l1In_eq (a b c : Int) : spec_l1In.f a b c = some (decide (b ≤ a ∧ a ≤ c)) := by
  unfold spec_l1In.f; by_cases h : b ≤ a <;> simp [h]
theorem within_eq (a b c : Int) : impl_within.f a b c = some (decide (b ≤ a ∧ a ≤ c)) := by
  unfold impl_within.f; by_cases h : b ≤ a <;> simp [h]

theorem toIntS_l (l : List Int) (hn : l.length ≤ 1048576) (d : Nat) : ∀ (j : Nat) (x3 : List Int), j + d = l.length → x3.length = l.length → (∀ i, i < j → x3[i]? = l[i]?) →
    Ev (fun k => laws_toIntS.l0 k l x3 (j : Int)) l := by
  induction d with
  | zero =>
    intro j x3 hj h3 he
    refine Ev.step (f := fun _ => some l) (fun k => ?_) (Ev.now _)
    simp only [laws_toIntS.l0]
    rw [if_neg (by omega)]
    refine congrArg some (List.ext_getElem? fun i => ?_)
    by_cases hi : i < j
    · exact he i hi
    · rw [List.getElem?_eq_none (by omega), List.getElem?_eq_none (by omega)]
  | succ d ih =>
    intro j x3 hj h3 he
    refine Ev.step (fun k => ?_) (ih (j + 1) (x3.set j (rd l j)) (by omega) (by simpa using h3) (fun i hi => ?_))
    · simp only [laws_toIntS.l0]
      rw [if_pos (by omega), if_pos (by omega), if_pos (by omega), wj (n := l.length) (by omega) (by omega)]
      rfl
    · rw [List.getElem?_set]
      split
      · rename_i h
        subst h
        rw [if_pos (by omega), rdj, getD_at (by omega), List.getElem?_eq_getElem (by omega)]
      · exact he i (by omega)
theorem toIntS_ev (l : List Int) (hn : l.length ≤ 1048576) : Ev (fun k => laws_toIntS.f k l) l := by
  refine Ev.congr (fun k => ?_) (toIntS_l l hn l.length 0 (List.replicate l.length 0) (by omega) (by simp) (fun i hi => by omega))
  simp only [laws_toIntS.f]
  rw [if_pos (by omega), if_pos (by omega)]
  rfl

theorem eqIntS_l (l : List Int) (hn : l.length ≤ 1048576) (d : Nat) : ∀ (j : Nat), j + d = l.length → Ev (fun k => laws_eqIntS.l0 k l l (j : Int)) true := by
  induction d with
  | zero =>
    intro j hj
    refine Ev.step (f := fun _ => some true) (fun k => ?_) (Ev.now _)
    simp only [laws_eqIntS.l0]
    rw [if_neg (by omega)]
  | succ d ih =>
    intro j hj
    refine Ev.step (fun k => ?_) (ih (j + 1) (by omega))
    simp only [laws_eqIntS.l0]
    rw [if_pos (by omega), if_pos (by omega), if_pos (by omega), if_pos trivial, wj (n := l.length) (by omega) (by omega)]
theorem eqIntS_ev (l : List Int) (hn : l.length ≤ 1048576) : Ev (fun k => laws_eqIntS.f k l l) true := by
  refine Ev.congr (fun k => ?_) (eqIntS_l l hn l.length 0 (by omega))
  simp only [laws_eqIntS.f]
  rw [if_pos trivial]
  rfl

/-- Numbers that are lengths. -/
def lenB (l : List Int) : Bool := decide (1 ≤ (l.length : Int) ∧ (l.length : Int) ≤ 24) && l.all fun n => decide (0 ≤ n ∧ n ≤ 23)
theorem lenB_iff (l : List Int) : lenB l = true ↔ (1 ≤ (l.length : Int) ∧ (l.length : Int) ≤ 24) ∧ ∀ n ∈ l, 0 ≤ n ∧ n ≤ 23 := by
  simp [lenB, List.all_eq_true]
theorem areLengths_eq (l : List Int) : impl_areLengths.f l = some (lenB l) := by
  unfold impl_areLengths.f impl_areAll_int__82.f
  rw [within_eq, allO_all (q := fun n => decide (0 ≤ n ∧ n ≤ 23)) (fun x => by unfold impl_areLengths_1.f; rw [within_eq]; rfl)]
  simp only [Option.bind_some, lenB]
  by_cases h : 1 ≤ (l.length : Int) ∧ (l.length : Int) ≤ 24 <;> simp [h]
theorem l15Lengths_l (l : List Int) (hn : l.length ≤ 1048576) (d : Nat) : ∀ (j : Nat), j + d = l.length → (∀ n ∈ l.take j, 0 ≤ n ∧ n ≤ 23) → Ev (fun k => spec_l15Lengths.l0 k l l (l.length : Int) (j : Int)) (lenB l) := by
  induction d with
  | zero =>
    intro j hj ha
    refine Ev.step (f := fun _ => some (lenB l)) (fun k => ?_) (Ev.now _)
    simp only [spec_l15Lengths.l0]
    rw [if_neg (by omega), l1In_eq]
    simp only [Option.bind_some, Option.some.injEq, lenB]
    rw [List.take_of_length_le (by omega)] at ha
    rw [show (l.all fun n => decide (0 ≤ n ∧ n ≤ 23)) = true from by simpa [List.all_eq_true] using ha, Bool.and_true]
  | succ d ih =>
    intro j hj ha
    have hlt : j < l.length := by omega
    by_cases hx : 0 ≤ l[j] ∧ l[j] ≤ 23
    · refine Ev.step (fun k => ?_) (ih (j + 1) (by omega) (fun n hm => ?_))
      · simp only [spec_l15Lengths.l0]
        rw [if_pos (by omega), if_pos (by omega), if_pos (by omega), l1In_eq, rdj, getD_at hlt]
        simp only [Option.bind_some, decide_eq_true_eq]
        rw [if_pos hx, wj (n := l.length) hlt (by omega)]
      · rw [List.take_succ_eq_append_getElem hlt, List.mem_append] at hm
        rcases hm with hm | hm
        · exact ha n hm
        · rw [List.mem_singleton.1 hm]; exact hx
    · refine Ev.step (f := fun _ => some (lenB l)) (fun k => ?_) (Ev.now _)
      simp only [spec_l15Lengths.l0]
      rw [if_pos (by omega), if_pos (by omega), if_pos (by omega), l1In_eq, rdj, getD_at hlt]
      simp only [Option.bind_some, decide_eq_true_eq]
      rw [if_neg hx]
      refine congrArg some ?_
      symm
      rw [Bool.eq_false_iff]
      intro h
      exact hx ((lenB_iff l).1 h |>.2 _ (List.getElem_mem hlt))
theorem l15Lengths_ev (l : List Int) (hn : l.length ≤ 1048576) : Ev (fun k => spec_l15Lengths.f k l) (lenB l) :=
  l15Lengths_l l hn l.length 0 (by omega) (by simp)

theorem shl_eq (n : Int) (h0 : 0 ≤ n) (h1 : n ≤ 23) : shl .i64 1 (IntKind.u64.wrap (wrap64 (23 - n))) = shl .i64 1 (wrap64 (23 - n)) := by
  rw [w64 (by omega) (by omega)]
  refine congrArg (shl .i64 1) ?_
  simp only [IntKind.wrap, IntKind.bits, IntKind.signed]; simp; omega
theorem kraft_same (k : Nat) : ∀ (x3 : Int) (l : List Int) (x7 x8 : Int), (∀ n ∈ l, 0 ≤ n ∧ n ≤ 23) → spec_l15Kraft.l0 k x3 l x7 x8 = impl_kraft.l0 k x3 l x7 x8 := by
  induction k with
  | zero => intros; rfl
  | succ k ih =>
    intro x3 l x7 x8 hl
    simp only [spec_l15Kraft.l0, impl_kraft.l0]
    by_cases h1 : x8 < x7
    · rw [if_pos h1, if_pos h1]
      by_cases h2 : 0 ≤ x8
      · rw [if_pos h2, if_pos h2]
        by_cases h3 : x8 < (l.length : Int)
        · rw [if_pos h3, if_pos h3]
          have hm : 0 ≤ rd l x8 ∧ rd l x8 ≤ 23 := by
            have : rd l x8 = l[x8.toNat]'(by omega) := getD_at (by omega) 0
            rw [this]; exact hl _ (List.getElem_mem _)
          by_cases h4 : rd l x8 > 0
          · rw [if_pos h4, if_pos h4, if_pos (by rw [w64 (by omega) (by omega)]; simp only [IntKind.wrap, IntKind.bits, IntKind.signed]; simp; omega), if_pos (by rw [w64 (by omega) (by omega)]; omega), shl_eq _ hm.1 hm.2]
            exact ih _ _ _ _ hl
          · rw [if_neg h4, if_neg h4]
            exact ih _ _ _ _ hl
        · rw [if_neg h3, if_neg h3]
      · rw [if_neg h2, if_neg h2]
    · rw [if_neg h1, if_neg h1]
/-- It ends. -/
theorem kraft_ends (l : List Int) (hl : ∀ n ∈ l, 0 ≤ n ∧ n ≤ 23) (hn : l.length ≤ 1048576) (d : Nat) : ∀ (j : Nat) (x3 : Int), j + d = l.length → ∃ r, Ev (fun k => impl_kraft.l0 k x3 l (l.length : Int) (j : Int)) r := by
  induction d with
  | zero =>
    intro j x3 hj
    refine ⟨x3, Ev.step (f := fun _ => some x3) (fun k => ?_) (Ev.now _)⟩
    simp only [impl_kraft.l0]
    rw [if_neg (by omega)]
  | succ d ih =>
    intro j x3 hj
    have hlt : j < l.length := by omega
    have hm := hl _ (List.getElem_mem hlt)
    by_cases h4 : l[j] > 0
    · obtain ⟨r, hr⟩ := ih (j + 1) (wrap64 (x3 + shl .i64 1 (wrap64 (23 - l[j])))) (by omega)
      refine ⟨r, Ev.step (fun k => ?_) hr⟩
      simp only [impl_kraft.l0]
      rw [if_pos (by omega), if_pos (by omega), if_pos (by omega), rdj, getD_at hlt, if_pos h4, if_pos (by rw [w64 (by omega) (by omega)]; omega), wj (n := l.length) hlt (by omega)]
    · obtain ⟨r, hr⟩ := ih (j + 1) x3 (by omega)
      refine ⟨r, Ev.step (fun k => ?_) hr⟩
      simp only [impl_kraft.l0]
      rw [if_pos (by omega), if_pos (by omega), if_pos (by omega), rdj, getD_at hlt, if_neg h4, wj (n := l.length) hlt (by omega)]
theorem kraft_both (l : List Int) (hl : ∀ n ∈ l, 0 ≤ n ∧ n ≤ 23) (hn : l.length ≤ 1048576) : ∃ r, Ev (fun k => impl_kraft.f k l) r ∧ Ev (fun k => spec_l15Kraft.f k l) r := by
  obtain ⟨r, hr⟩ := kraft_ends l hl hn l.length 0 0 (by omega)
  exact ⟨r, hr, Ev.congr (fun k => kraft_same k 0 l l.length 0 hl) hr⟩

--IMPORT Derived.Lib.RabinKarpLaws
/-- The bytes of a number in so many bits. -/
def bitNum (n s i : Nat) : Int := ((48 + n / 2 ^ (s - 1 - i) % 2 : Nat) : Int)
def bitNums (n s : Nat) : List Int := (List.range s).map (bitNum n s)
def bitText (n s : Nat) : ByteArray := strOfNums (bitNums n s)
theorem bitNums_length (n s : Nat) : (bitNums n s).length = s := by simp [bitNums]
theorem shr_nat (n e : Nat) (he : e ≤ 63) : shr .i64 (n : Int) (e : Int) = ((n / 2 ^ e : Nat) : Int) := by
  unfold shr
  rw [show min (e : Int).toNat IntKind.i64.bits = e from by simp only [IntKind.bits]; omega]
  rw [Int.natCast_ediv, Int.natCast_pow]; rfl
theorem u64_small {x : Int} (h0 : 0 ≤ x) (h1 : x ≤ 9223372036854775807) : IntKind.u64.wrap x = x := by
  simp only [IntKind.wrap, IntKind.bits, IntKind.signed]; simp; omega
theorem bit_step (n e : Nat) (hn : n < 9223372036854775808) : Go.bits .and .i64 ((n / 2 ^ e : Nat) : Int) 1 = ((n / 2 ^ e % 2 : Nat) : Int) :=
  Go.Proofs.and_one (n / 2 ^ e) (Nat.lt_of_le_of_lt (Nat.div_le_self _ _) hn)
theorem bits_l (n s : Nat) (hn : n < 9223372036854775808) (hs : s ≤ 60) (d : Nat) : ∀ (j : Nat) (x : List Int), j + d = s → x.length = s → (∀ i, i < j → x[i]? = some (bitNum n s i)) →
    Ev (fun k => spec_l15Bits.l0 k (n : Int) (s : Int) x (s : Int) (j : Int)) (bitText n s) ∧ Ev (fun k => impl_binary.l0 k (n : Int) (s : Int) x (s : Int) (j : Int)) (bitText n s) := by
  induction d with
  | zero =>
    intro j x hj hx he
    have e : x = bitNums n s := List.ext_getElem? fun i => by
      by_cases hi : i < s
      · rw [he i (by omega)]; simp [bitNums, hi]
      · rw [List.getElem?_eq_none (by omega), List.getElem?_eq_none (by rw [bitNums_length]; omega)]
    subst e
    constructor
    · refine Ev.step (f := fun _ => some (bitText n s)) (fun k => ?_) (Ev.now _)
      simp only [spec_l15Bits.l0]; rw [if_neg (by omega)]; rfl
    · refine Ev.step (f := fun _ => some (bitText n s)) (fun k => ?_) (Ev.now _)
      simp only [impl_binary.l0]; rw [if_neg (by omega)]; rfl
  | succ d ih =>
    intro j x hj hx he
    have hb : 0 ≤ n / 2 ^ (s - 1 - j) % 2 ∧ n / 2 ^ (s - 1 - j) % 2 < 2 := ⟨Nat.zero_le _, Nat.mod_lt _ (by decide)⟩
    have hw : wrap64 (wrap64 ((s : Int) - 1) - (j : Int)) = ((s - 1 - j : Nat) : Int) := by
      rw [w64 (x := (s : Int) - 1) (by omega) (by omega), w64 (by omega) (by omega)]; omega
    obtain ⟨h1, h2⟩ := ih (j + 1) (x.set j (bitNum n s j)) (by omega) (by simpa using hx) (fun i hi => by
      rw [List.getElem?_set]
      split
      · rename_i h; subst h; rw [if_pos (by omega)]
      · exact he i (by omega))
    constructor
    · refine Ev.step (fun k => ?_) h1
      simp only [spec_l15Bits.l0]
      rw [if_pos (by omega), hw, u64_small (by omega) (by omega), if_pos (by omega), if_pos (by omega), if_pos (by omega), shr_nat n _ (by omega), bit_step n _ hn, wj (n := s) (by omega) (by omega)]
      rw [show (48 + ((n / 2 ^ (s - 1 - j) % 2 : Nat) : Int) % 256) % 256 = bitNum n s j from by unfold bitNum; omega]
      rfl
    · refine Ev.step (fun k => ?_) h2
      simp only [impl_binary.l0]
      rw [if_pos (by omega), hw, if_pos (by omega), if_pos (by omega), if_pos (by omega), shr_nat n _ (by omega), bit_step n _ hn, wj (n := s) (by omega) (by omega)]
      rw [show (wrap64 (48 + ((n / 2 ^ (s - 1 - j) % 2 : Nat) : Int))) % 256 = bitNum n s j from by rw [w64 (by omega) (by omega)]; unfold bitNum; omega]
      rfl
theorem bits_ev (n s : Nat) (hn : n < 9223372036854775808) (hs : s ≤ 60) : Ev (fun k => spec_l15Bits.f k (n : Int) (s : Int)) (bitText n s) ∧ Ev (fun k => impl_binary.f k (n : Int) (s : Int)) (bitText n s) := by
  obtain ⟨h1, h2⟩ := bits_l n s hn hs s 0 (List.replicate s 0) (by omega) (by simp) (fun i hi => by omega)
  constructor
  · refine Ev.congr (fun k => ?_) h1
    simp only [spec_l15Bits.f]
    rw [if_pos (by omega), if_pos (by omega)]
    simp
  · refine Ev.congr (fun k => ?_) h2
    simp only [impl_binary.f]
    rw [if_pos (by omega), if_pos (by omega)]
    simp

/-- The codes of one length: of the lengths and what stands there so far; the next number. -/
def cin (s : Nat) : List Int → List ByteArray → Nat → List ByteArray × Nat
  | x :: xs, o :: os, n => if x = (s : Int) then (bitText n s :: (cin s xs os (n + 1)).1, (cin s xs os (n + 1)).2) else (o :: (cin s xs os n).1, (cin s xs os n).2)
  | _, _, n => ([], n)
/-- The codes from one length on. -/
def cout (l : List Int) : Nat → Nat → List ByteArray → Nat → List ByteArray
  | 0, _, out, _ => out
  | d + 1, s, out, n => cout l d (s + 1) (cin s l out (2 * n)).1 (cin s l out (2 * n)).2
/-- The codes of lengths. -/
def codesP (l : List Int) : List ByteArray := cout l 23 1 (List.replicate l.length ⟨#[]⟩) 0
theorem cin_length (s : Nat) : ∀ (l : List Int) (os : List ByteArray) (n : Nat), l.length = os.length → (cin s l os n).1.length = l.length
  | [], [], _, _ => rfl
  | x :: xs, o :: os, n, h => by
    unfold cin
    split
    · simp [cin_length s xs os (n + 1) (by simpa using h)]
    · simp [cin_length s xs os n (by simpa using h)]
theorem cin_le (s : Nat) : ∀ (l : List Int) (os : List ByteArray) (n : Nat), (cin s l os n).2 ≤ n + l.length
  | [], _, n => by simp [cin]
  | x :: xs, [], n => by simp [cin]
  | x :: xs, o :: os, n => by
    unfold cin
    split
    · have := cin_le s xs os (n + 1); simp; omega
    · have := cin_le s xs os n; simp; omega
theorem drop_cons {α : Type} {l : List α} {j : Nat} (h : j < l.length) : l.drop j = l[j] :: l.drop (j + 1) := List.drop_eq_getElem_cons h
theorem shl_at (n q s : Nat) (hq : q ≤ s) (hs : s ≤ 60) (hn : n * 2 ^ (s - q) < 9223372036854775808) : shl .i64 (n : Int) (wrap64 ((s : Int) - (q : Int))) = ((n * 2 ^ (s - q) : Nat) : Int) := by
  rw [w64 (by omega) (by omega)]
  unfold shl
  rw [show min ((s : Int) - (q : Int)).toNat IntKind.i64.bits = s - q from by simp only [IntKind.bits]; omega]
  rw [show (n : Int) * 2 ^ (s - q) = ((n * 2 ^ (s - q) : Nat) : Int) from by rw [Int.natCast_mul, Int.natCast_pow]; rfl]
  generalize n * 2 ^ (s - q) = z at hn
  simp only [IntKind.wrap, IntKind.bits, IntKind.signed]; simp; omega
theorem codes_l1 (l : List Int) (hl : l.length ≤ 24) (s : Nat) (hs0 : 1 ≤ s) (hs : s ≤ 23) (r : List ByteArray)
    (H : ∀ (out : List ByteArray) (n q m : Nat), q ≤ s → m * 2 ^ (s - q) = n → n ≤ 24 * 2 ^ s - 24 → out.length = l.length → (cout l (23 - s) (s + 1) out n = r) →
      Ev (fun k => spec_l15Codes.l0 k l out (n : Int) ((s + 1 : Nat) : Int)) r ∧ Ev (fun k => impl_codesOf.l0 k l out (m : Int) (q : Int) ((s + 1 : Nat) : Int)) r) (d : Nat) :
    ∀ (j : Nat) (pre os : List ByteArray) (n q m : Nat), j + d = l.length → pre.length = j → os.length = d → q ≤ s → m * 2 ^ (s - q) = n → n + d ≤ 24 * 2 ^ s - 24 →
      cout l (23 - s) (s + 1) (pre ++ (cin s (l.drop j) os n).1) (cin s (l.drop j) os n).2 = r →
      Ev (fun k => spec_l15Codes.l1 k l (pre ++ os) (n : Int) (s : Int) l (l.length : Int) (j : Int)) r ∧ Ev (fun k => impl_codesOf.l1 k l (pre ++ os) (m : Int) (q : Int) (s : Int) l (l.length : Int) (j : Int)) r := by
  have hp : 2 ^ s ≤ 8388608 := Nat.pow_le_pow_right (n := 2) (by decide) hs
  induction d with
  | zero =>
    intro j pre os n q m hj hpre hos hq hm hn hr
    obtain rfl : os = [] := List.eq_nil_of_length_eq_zero hos
    rw [List.drop_eq_nil_of_le (by omega)] at hr
    simp only [cin, List.append_nil] at hr
    obtain ⟨h1, h2⟩ := H pre n q m hq hm (by omega) (by omega) hr
    rw [List.append_nil]
    constructor
    · refine Ev.step (fun k => ?_) h1
      simp only [spec_l15Codes.l1]
      rw [if_neg (by omega), w64 (by omega) (by omega)]; rfl
    · refine Ev.step (fun k => ?_) h2
      simp only [impl_codesOf.l1]
      rw [if_neg (by omega), w64 (by omega) (by omega)]; rfl
  | succ d ih =>
    intro j pre os n q m hj hpre hos hq hm hn hr
    have hlt : j < l.length := by omega
    obtain ⟨o, os, rfl⟩ : ∃ o os', os = o :: os' := by cases os with | nil => simp at hos | cons o os => exact ⟨o, os, rfl⟩
    simp only [List.length_cons, Nat.add_right_cancel_iff] at hos
    rw [drop_cons hlt] at hr
    unfold cin at hr
    have hset : ∀ (y : ByteArray), (pre ++ o :: os).set j y = (pre ++ [y]) ++ os := fun y => by
      rw [List.set_append_right _ _ (by omega)]; simp [hpre]
    by_cases hx : l[j] = (s : Int)
    · rw [if_pos hx] at hr
      obtain ⟨h1, h2⟩ := ih (j + 1) (pre ++ [bitText n s]) os (n + 1) s (n + 1) (by omega) (by simp [hpre]) hos (Nat.le_refl _) (by simp) (by omega) (by rw [List.append_assoc]; exact hr)
      obtain ⟨b1, b2⟩ := bits_ev n s (by omega) (by omega)
      constructor
      · refine Ev.step (f := fun k => (spec_l15Bits.f k (n : Int) (s : Int)).bind fun t => spec_l15Codes.l1 k l (pre ++ [t] ++ os) ((n + 1 : Nat) : Int) (s : Int) l (l.length : Int) ((j + 1 : Nat) : Int)) (fun k => ?_) (Ev.bind b1 h1)
        simp only [spec_l15Codes.l1]
        rw [if_pos (by omega), if_pos (by omega), if_pos (by omega), rdj, getD_at hlt, if_pos hx]
        refine congrArg _ (funext fun t => ?_)
        rw [if_pos (by simp; omega), w64 (x := (n : Int) + 1) (by omega) (by omega), wj (n := l.length) hlt (by omega), Int.toNat_natCast, hset]
        rfl
      · refine Ev.step (f := fun k => (impl_binary.f k (n : Int) (s : Int)).bind fun t => impl_codesOf.l1 k l (pre ++ [t] ++ os) ((n + 1 : Nat) : Int) (s : Int) (s : Int) l (l.length : Int) ((j + 1 : Nat) : Int)) (fun k => ?_) (Ev.bind b2 h2)
        simp only [impl_codesOf.l1]
        rw [if_pos (by omega), if_pos (by omega), if_pos (by omega), rdj, getD_at hlt, if_pos hx, if_pos (by rw [w64 (by omega) (by omega)]; omega), shl_at m q s hq (by omega) (by omega), hm]
        refine congrArg _ (funext fun t => ?_)
        rw [if_pos (by simp; omega), w64 (x := (n : Int) + 1) (by omega) (by omega), wj (n := l.length) hlt (by omega), Int.toNat_natCast, hset]
        rfl
    · rw [if_neg hx] at hr
      obtain ⟨h1, h2⟩ := ih (j + 1) (pre ++ [o]) os n q m (by omega) (by simp [hpre]) hos hq hm (by omega) (by rw [List.append_assoc]; exact hr)
      rw [List.append_assoc] at h1 h2
      constructor
      · refine Ev.step (fun k => ?_) h1
        simp only [spec_l15Codes.l1]
        rw [if_pos (by omega), if_pos (by omega), if_pos (by omega), rdj, getD_at hlt, if_neg hx, wj (n := l.length) hlt (by omega)]
        rfl
      · refine Ev.step (fun k => ?_) h2
        simp only [impl_codesOf.l1]
        rw [if_pos (by omega), if_pos (by omega), if_pos (by omega), rdj, getD_at hlt, if_neg hx, wj (n := l.length) hlt (by omega)]
        rfl
theorem codes_l0 (l : List Int) (hl : l.length ≤ 24) (d : Nat) : ∀ (s : Nat) (out : List ByteArray) (n q m : Nat), s + d = 24 → 1 ≤ s → q + 1 ≤ s → m * 2 ^ (s - 1 - q) = n → n ≤ 24 * 2 ^ (s - 1) - 24 → out.length = l.length →
    Ev (fun k => spec_l15Codes.l0 k l out (n : Int) (s : Int)) (cout l d s out n) ∧ Ev (fun k => impl_codesOf.l0 k l out (m : Int) (q : Int) (s : Int)) (cout l d s out n) := by
  induction d with
  | zero =>
    intro s out n q m hs hs1 hq hm hn ho
    constructor
    · refine Ev.step (f := fun _ => some out) (fun k => ?_) (Ev.now _)
      simp only [spec_l15Codes.l0]; rw [if_neg (by omega)]
    · refine Ev.step (f := fun _ => some out) (fun k => ?_) (Ev.now _)
      simp only [impl_codesOf.l0]; rw [if_neg (by omega)]
  | succ d ih =>
    intro s out n q m hs hs1 hq hm hn ho
    have hp : 2 ^ (s - 1) ≤ 8388608 := Nat.pow_le_pow_right (n := 2) (by decide) (show s - 1 ≤ 23 by omega)
    have hps : 2 ^ s = 2 * 2 ^ (s - 1) := by
      rw [show s = (s - 1) + 1 from by omega, Nat.pow_succ]; simp; omega
    have hp1 : 1 ≤ 2 ^ (s - 1) := Nat.one_le_two_pow
    obtain rfl : d = 23 - s := by omega
    obtain ⟨h1, h2⟩ := codes_l1 l hl s hs1 (by omega) (cout l (23 - s + 1) s out n) (fun out' n' q' m' hq' hm' hn' ho' hr' => by
        have := ih (s + 1) out' n' q' m' (by omega) (by omega) (by omega) (by simpa using hm') (by simpa using hn') ho'
        rw [hr'] at this
        exact this) l.length 0 [] out (2 * n) q m (by omega) rfl ho (by omega) (by rw [← hm, show s - q = (s - 1 - q) + 1 from by omega, Nat.pow_succ]; rw [Nat.mul_comm 2, Nat.mul_assoc]) (by omega) (by rfl)
    constructor
    · refine Ev.step (fun k => ?_) h1
      simp only [spec_l15Codes.l0]
      rw [if_pos (by omega), w64 (by omega) (by omega), show (n : Int) * 2 = ((2 * n : Nat) : Int) from by omega]
      rfl
    · refine Ev.step (fun k => ?_) h2
      simp only [impl_codesOf.l0]
      rw [if_pos (by omega)]
      rfl
theorem codes_ev (l : List Int) (hl : l.length ≤ 24) : Ev (fun k => spec_l15Codes.f k l) (codesP l) ∧ Ev (fun k => impl_codesOf.f k l) (codesP l) := by
  obtain ⟨h1, h2⟩ := codes_l0 l hl 23 1 (List.replicate l.length ⟨#[]⟩) 0 0 0 (by omega) (by omega) (by omega) (by omega) (by omega) (by simp)
  constructor
  · refine Ev.congr (fun k => ?_) h1
    simp only [spec_l15Codes.f]
    rw [if_pos (by omega), if_pos (by omega)]
    rfl
  · refine Ev.congr (fun k => ?_) h2
    simp only [impl_codesOf.f]
    rw [if_pos (by omega), if_pos (by omega)]
    rfl

--IMPORT Derived.Lib.Split
/-- How many of a list are s. -/
def cnt (s : Nat) : List Int → Nat
  | [] => 0
  | x :: xs => (if x = (s : Int) then 1 else 0) + cnt s xs
/-- The first number of the codes of length d + 1. -/
def stp (l : List Int) : Nat → Nat
  | 0 => 0
  | d + 1 => 2 * (stp l d + cnt (d + 1) l)
/-- The number of a code of length a at place i. -/
def numOf (l : List Int) (a i : Nat) : Nat := stp l (a - 1) + cnt a (l.take i)
/-- How much room lengths need, up to one. -/
def roomTo (s : Nat) : List Int → Nat
  | [] => 0
  | x :: xs => (if 1 ≤ x ∧ x ≤ (s : Int) then 2 ^ (23 - x.toNat) else 0) + roomTo s xs
theorem cin_at (s : Nat) : ∀ (l : List Int) (os : List ByteArray) (n i : Nat), l.length = os.length → (h : i < l.length) →
    (cin s l os n).1[i]? = if l[i] = (s : Int) then some (bitText (n + cnt s (l.take i)) s) else os[i]?
  | x :: xs, o :: os, n, 0, _, _ => by
    unfold cin
    by_cases c : x = (s : Int)
    · simp [c, cnt]
    · simp [c]
  | x :: xs, o :: os, n, i + 1, hl, h => by
    have hl' : xs.length = os.length := by simpa using hl
    have h' : i < xs.length := by simpa using h
    unfold cin
    by_cases c : x = (s : Int)
    · rw [if_pos c]
      have := cin_at s xs os (n + 1) i hl' h'
      simp only [List.getElem?_cons_succ, List.getElem_cons_succ, List.take_succ_cons, cnt, if_pos c]
      rw [this, Nat.add_assoc]
    · rw [if_neg c]
      have := cin_at s xs os n i hl' h'
      simp only [List.getElem?_cons_succ, List.getElem_cons_succ, List.take_succ_cons, cnt, if_neg c]
      rw [this, Nat.zero_add]
theorem cin_next (s : Nat) : ∀ (l : List Int) (os : List ByteArray) (n : Nat), l.length = os.length → (cin s l os n).2 = n + cnt s l
  | [], [], _, _ => rfl
  | x :: xs, o :: os, n, hl => by
    have hl' : xs.length = os.length := by simpa using hl
    unfold cin
    by_cases c : x = (s : Int)
    · simp only [if_pos c, cnt]; rw [cin_next s xs os (n + 1) hl']; omega
    · simp only [if_neg c, cnt]; rw [cin_next s xs os n hl']; omega
theorem cout_at (l : List Int) (d : Nat) : ∀ (s : Nat) (out : List ByteArray) (n i : Nat), s + d = 24 → 1 ≤ s → 2 * n = stp l (s - 1) → out.length = l.length → (h : i < l.length) →
    (cout l d s out n)[i]? = if (s : Int) ≤ l[i] ∧ l[i] ≤ 23 then some (bitText (numOf l l[i].toNat i) l[i].toNat) else out[i]? := by
  induction d with
  | zero =>
    intro s out n i hs _ _ _ h
    rw [if_neg (by omega)]; rfl
  | succ d ih =>
    intro s out n i hs h1 hn ho h
    have e := ih (s + 1) (cin s l out (2 * n)).1 (cin s l out (2 * n)).2 i (by omega) (by omega) (by
      rw [cin_next s l out _ ho.symm, hn, show s + 1 - 1 = (s - 1) + 1 from by omega]
      simp only [stp]; rw [show s - 1 + 1 = s from by omega]) (by rw [cin_length s l out _ ho.symm]) h
    simp only [cout]
    rw [e, cin_at s l out _ i ho.symm h, hn]
    by_cases c : l[i] = (s : Int)
    · rw [if_neg (by omega), if_pos c, if_pos (by omega), show l[i].toNat = s from by omega]; rfl
    · rw [if_neg c]
      by_cases c2 : ((s + 1 : Nat) : Int) ≤ l[i] ∧ l[i] ≤ 23
      · rw [if_pos c2, if_pos (by omega)]
      · rw [if_neg c2, if_neg (by omega)]
/-- A length, as a natural number. -/
def lenAt (l : List Int) (i : Nat) : Nat := (l.getD i 0).toNat
theorem cout_length (l : List Int) (d : Nat) : ∀ (s : Nat) (out : List ByteArray) (n : Nat), out.length = l.length → (cout l d s out n).length = l.length := by
  induction d with
  | zero => intro s out n h; exact h
  | succ d ih => intro s out n h; exact ih _ _ _ (cin_length s l out _ h.symm)
theorem codesP_length (l : List Int) : (codesP l).length = l.length := cout_length l 23 1 _ 0 (by simp)
theorem codesP_at (l : List Int) (hl : ∀ n ∈ l, 0 ≤ n ∧ n ≤ 23) (i : Nat) (h : i < l.length) :
    (codesP l)[i]'(by rw [codesP_length]; exact h) = if 1 ≤ lenAt l i then bitText (numOf l (lenAt l i) i) (lenAt l i) else ⟨#[]⟩ := by
  have e := cout_at l 23 1 (List.replicate l.length ⟨#[]⟩) 0 i (by omega) (by omega) rfl (by simp) h
  have hm := hl _ (List.getElem_mem h)
  have e2 : lenAt l i = l[i].toNat := by unfold lenAt; rw [getD_at h]
  rw [← Option.some.injEq, ← List.getElem?_eq_getElem]
  show (cout l 23 1 (List.replicate l.length ⟨#[]⟩) 0)[i]? = _
  rw [e, e2]
  by_cases c : 1 ≤ l[i]
  · rw [if_pos (by omega), if_pos (by omega)]
  · rw [if_neg (by omega), if_neg (by omega)]; simp [h]
theorem cnt_take_lt (l : List Int) (a : Nat) {i j : Nat} (hij : i < j) (h : i < l.length) (hi : l[i] = (a : Int)) : cnt a (l.take i) + 1 ≤ cnt a (l.take j) := by
  induction l generalizing i j with
  | nil => simp at h
  | cons x xs ih =>
    obtain ⟨j, rfl⟩ : ∃ j', j = j' + 1 := ⟨j - 1, by omega⟩
    cases i with
    | zero =>
      simp only [List.getElem_cons_zero] at hi
      simp [cnt, hi]
    | succ i =>
      simp only [List.getElem_cons_succ] at hi
      have := ih (i := i) (j := j) (by omega) (by simpa using h) hi
      simp only [List.take_succ_cons, cnt]; omega
theorem cnt_take_all (l : List Int) (a : Nat) {i : Nat} (h : i < l.length) (hi : l[i] = (a : Int)) : cnt a (l.take i) + 1 ≤ cnt a l := by
  have := cnt_take_lt l a (j := l.length) h h hi
  rwa [List.take_length] at this
theorem stp_grow (l : List Int) (d e : Nat) : (stp l d + cnt (d + 1) l) * 2 ^ (e + 1) ≤ stp l (d + e + 1) := by
  induction e with
  | zero => simp only [stp, Nat.add_zero, Nat.zero_add, Nat.pow_one]; omega
  | succ e ih =>
    have : stp l (d + (e + 1) + 1) = 2 * (stp l (d + e + 1) + cnt (d + (e + 1) + 1) l) := rfl
    rw [this, Nat.pow_succ, ← Nat.mul_assoc]
    omega
theorem roomTo_zero (l : List Int) : roomTo 0 l = 0 := by
  induction l with
  | nil => rfl
  | cons x xs ih => simp only [roomTo, ih]; rw [if_neg (by omega)]
theorem roomTo_succ (s : Nat) (l : List Int) : roomTo (s + 1) l = roomTo s l + cnt (s + 1) l * 2 ^ (23 - (s + 1)) := by
  induction l with
  | nil => simp [roomTo, cnt]
  | cons x xs ih =>
    simp only [roomTo, cnt, ih, Nat.add_mul]
    by_cases c : x = ((s + 1 : Nat) : Int)
    · rw [if_pos (by omega), if_neg (by omega), if_pos c, show x.toNat = s + 1 from by omega]; omega
    · by_cases c2 : 1 ≤ x ∧ x ≤ (s : Int)
      · rw [if_pos (by omega), if_pos c2, if_neg c]; omega
      · rw [if_neg (by omega), if_neg c2, if_neg c]; omega
theorem roomTo_mono (l : List Int) (s d : Nat) : roomTo s l ≤ roomTo (s + d) l := by
  induction d with
  | zero => exact Nat.le_refl _
  | succ d ih => rw [← Nat.add_assoc, roomTo_succ]; omega
theorem stp_room (l : List Int) (d : Nat) : d ≤ 22 → (stp l d + cnt (d + 1) l) * 2 ^ (22 - d) = roomTo (d + 1) l := by
  induction d with
  | zero =>
    intro _
    rw [roomTo_succ, roomTo_zero]; simp [stp]
  | succ d ih =>
    intro hd
    have e := ih (by omega)
    rw [roomTo_succ, ← e]
    simp only [stp]
    rw [show 22 - d = (22 - (d + 1)) + 1 from by omega, Nat.pow_succ, show 23 - (d + 1 + 1) = 22 - (d + 1) from by omega, Nat.add_mul]
    generalize 2 ^ (22 - (d + 1)) = P
    generalize stp l d + cnt (d + 1) l = Q
    rw [Nat.mul_comm 2 Q, Nat.mul_assoc, Nat.mul_comm 2 P]
theorem numOf_room (l : List Int) (a i : Nat) (ha : 1 ≤ a) (ha2 : a ≤ 23) (h : i < l.length) (hi : l[i] = (a : Int)) (hk : roomTo 23 l ≤ 2 ^ 23) : numOf l a i + 1 ≤ 2 ^ a := by
  have h1 := cnt_take_all l a h hi
  have h2 := stp_room l (a - 1) (by omega)
  rw [show a - 1 + 1 = a from by omega, show 22 - (a - 1) = 23 - a from by omega] at h2
  have h3 := roomTo_mono l a (23 - a)
  rw [show a + (23 - a) = 23 from by omega] at h3
  have h4 : (numOf l a i + 1) * 2 ^ (23 - a) ≤ 2 ^ a * 2 ^ (23 - a) := by
    rw [← Nat.pow_add, show a + (23 - a) = 23 from by omega]
    refine Nat.le_trans (Nat.mul_le_mul_right _ (show numOf l a i + 1 ≤ stp l (a - 1) + cnt a l by unfold numOf; omega)) ?_
    omega
  exact Nat.le_of_mul_le_mul_right h4 (Nat.two_pow_pos _)
theorem numOf_order (l : List Int) {a b i j : Nat} (ha : 1 ≤ a) (h : i < l.length) (hi : l[i] = (a : Int)) (hab : a < b ∨ a = b ∧ i < j) : (numOf l a i + 1) * 2 ^ (b - a) ≤ numOf l b j := by
  rcases hab with hab | ⟨rfl, hij⟩
  · have h1 := cnt_take_all l a h hi
    have h2 := stp_grow l (a - 1) (b - a - 1)
    rw [show a - 1 + 1 = a from by omega, show b - a - 1 + 1 = b - a from by omega, show a - 1 + (b - a - 1) + 1 = b - 1 from by omega] at h2
    refine Nat.le_trans (Nat.mul_le_mul_right _ (show numOf l a i + 1 ≤ stp l (a - 1) + cnt a l by unfold numOf; omega)) ?_
    unfold numOf; omega
  · have h1 := cnt_take_lt l a hij h hi
    rw [Nat.sub_self]; unfold numOf; omega
/-- The bytes of a number in so many bits, as bytes. -/
def bitBytes (n s : Nat) : List UInt8 := (List.range s).map fun i => UInt8.ofNat (48 + n / 2 ^ (s - 1 - i) % 2)
theorem bitText_data (n s : Nat) : (bitText n s).data.toList = bitBytes n s := by
  unfold bitText bitBytes bitNums
  rw [strOfNums_data, List.map_map]
  refine List.map_congr_left fun i _ => ?_
  simp only [Function.comp, bitNum]; rw [Int.toNat_natCast]
theorem bitText_size (n s : Nat) : (bitText n s).size = s := by unfold bitText; rw [strOfNums_size, bitNums_length]
theorem bitBytes_at (n s i : Nat) (h : i < s) : (bitBytes n s)[i]? = some (UInt8.ofNat (48 + n / 2 ^ (s - 1 - i) % 2)) := by simp [bitBytes, h]
theorem bit_inj {x y : Nat} (hx : x < 2) (hy : y < 2) (h : UInt8.ofNat (48 + x) = UInt8.ofNat (48 + y)) : x = y := by
  have e := congrArg UInt8.toNat h
  simp only [UInt8.toNat_ofNat'] at e
  omega
theorem same_bits {n m a : Nat} (hn : n < 2 ^ a) (hm : m < 2 ^ a) (h : ∀ i, i < a → n / 2 ^ i % 2 = m / 2 ^ i % 2) : n = m := by
  refine Nat.eq_of_testBit_eq fun i => ?_
  by_cases c : i < a
  · rw [Nat.testBit_eq_decide_div_mod_eq, Nat.testBit_eq_decide_div_mod_eq, h i c]
  · have e : 2 ^ a ≤ 2 ^ i := Nat.pow_le_pow_right (by decide) (by omega)
    rw [Nat.testBit_lt_two_pow (by omega), Nat.testBit_lt_two_pow (by omega)]
theorem prefix_bits {n m a b : Nat} (hab : a ≤ b) (hn : n < 2 ^ a) (hm : m < 2 ^ b) (h : (bitBytes m b).take a = bitBytes n a) : m / 2 ^ (b - a) = n := by
  refine same_bits (a := a) (Nat.div_lt_of_lt_mul (by rw [← Nat.pow_add, show b - a + a = b from by omega]; exact hm)) hn fun i hi => ?_
  have e := congrArg (fun l => l[a - 1 - i]?) h
  simp only [List.getElem?_take] at e
  rw [if_pos (by omega), bitBytes_at _ _ _ (by omega), bitBytes_at _ _ _ (by omega)] at e
  have e2 := bit_inj (Nat.mod_lt _ (by decide)) (Nat.mod_lt _ (by decide)) (Option.some.inj e)
  rw [show a - 1 - (a - 1 - i) = i from by omega, show b - 1 - (a - 1 - i) = (b - a) + i from by omega, Nat.pow_add, ← Nat.div_div_eq_div_mul] at e2
  exact e2
theorem bitBytes_cons (n s : Nat) : bitBytes n (s + 1) = UInt8.ofNat (48 + n / 2 ^ s % 2) :: bitBytes n s := by
  unfold bitBytes
  rw [List.range_succ_eq_map, List.map_cons, List.map_map]
  refine List.cons_eq_cons.2 ⟨by simp, List.map_congr_left fun i _ => ?_⟩
  simp only [Function.comp]
  rw [show s + 1 - 1 - (i + 1) = s - 1 - i from by omega]
theorem less_bits (s : Nat) : ∀ (n m : Nat), n % 2 ^ s < m % 2 ^ s → Op.bytesLess (bitBytes n s) (bitBytes m s) = true := by
  induction s with
  | zero => intro n m h; simp [Nat.mod_one] at h
  | succ s ih =>
    intro n m h
    rw [bitBytes_cons, bitBytes_cons]
    rw [Nat.pow_succ, Nat.mod_mul, Nat.mod_mul] at h
    have hn := Nat.mod_lt (n / 2 ^ s) (show 0 < 2 by decide)
    have hm := Nat.mod_lt (m / 2 ^ s) (show 0 < 2 by decide)
    have hn2 := Nat.mod_lt n (Nat.two_pow_pos s)
    have hm2 := Nat.mod_lt m (Nat.two_pow_pos s)
    generalize n / 2 ^ s % 2 = x at *
    generalize m / 2 ^ s % 2 = y at *
    simp only [Op.bytesLess, Bool.or_eq_true, Bool.and_eq_true, decide_eq_true_eq, beq_iff_eq]
    obtain rfl | rfl : x = 0 ∨ x = 1 := by omega
    · obtain rfl | rfl : y = 0 ∨ y = 1 := by omega
      · exact .inr ⟨rfl, ih n m (by omega)⟩
      · exact .inl (by decide)
    · obtain rfl | rfl : y = 0 ∨ y = 1 := by omega
      · exfalso; omega
      · exact .inr ⟨rfl, ih n m (by omega)⟩

/-- What the lengths come to, as both tell it. -/
theorem right_ev (l : List Int) (hn : l.length ≤ 1048576) : ∃ b, Ev (fun k => spec_l15Right.f k l) b ∧ Ev (fun k => impl_areRight.f k l) b ∧ (b = true → lenB l = true) := by
  cases hb : lenB l with
  | false =>
    refine ⟨false, ?_, ?_, fun h => by cases h⟩
    · unfold spec_l15Right.f
      refine Ev.bind (by have := l15Lengths_ev l hn; rwa [hb] at this) ?_
      exact Ev.congr (fun k => by simp) (Ev.now _)
    · exact Ev.congr (f := fun _ => some false) (fun k => by simp [impl_areRight.f, areLengths_eq, hb]) (Ev.now _)
  | true =>
    obtain ⟨r, h1, h2⟩ := kraft_both l ((lenB_iff l).1 hb).2 hn
    refine ⟨decide (r ≤ 8388608), ?_, ?_, fun _ => rfl⟩
    · unfold spec_l15Right.f
      refine Ev.bind (by have := l15Lengths_ev l hn; rwa [hb] at this) ?_
      simp only [if_true]
      exact Ev.bind h2 (Ev.now _)
    · refine Ev.congr (f := fun k => (impl_kraft.f k l).bind fun t => some (decide (t ≤ 8388608))) (fun k => by simp [impl_areRight.f, areLengths_eq, hb]) (Ev.bind h1 (Ev.now _))

theorem bapp (acc : List UInt8) (c : ByteArray) : (⟨acc.toArray⟩ : ByteArray) ++ c = ⟨(acc ++ c.data.toList).toArray⟩ := by
  apply ByteArray.ext
  simp
theorem bsize (acc : List UInt8) : (⟨acc.toArray⟩ : ByteArray).size = acc.length := by simp [ByteArray.size]
theorem dsize (c : ByteArray) : c.data.toList.length = c.size := Array.length_toList
theorem code_size (l : List Int) (hm : ∀ n ∈ l, 0 ≤ n ∧ n ≤ 23) (i : Nat) (h : i < (codesP l).length) : ((codesP l).getD i ByteArray.empty).size ≤ 23 := by
  rw [codesP_length] at h
  have hx := hm _ (List.getElem_mem h)
  rw [getD_at (by rw [codesP_length]; exact h), codesP_at l hm i h]
  split
  · rw [bitText_size]; unfold lenAt; rw [getD_at h]; omega
  · show 0 ≤ 23; omega
theorem encode_l (l0 l1 : List Int) (hm : ∀ n ∈ l0, 0 ≤ n ∧ n ≤ 23) (h0 : l0.length ≤ 24) (hn : l1.length ≤ 200) (d : Nat) : ∀ (j : Nat) (acc : List UInt8), j + d = l1.length → acc.length ≤ 23 * j →
    ∃ r : ByteArray × Bool, Ev (fun k => spec_EncodeBits.l0 k (codesP l0) ⟨acc.toArray⟩ l1 (l1.length : Int) (j : Int)) r ∧ Ev (fun k => impl_EncodeBits.l0 k l0 (codesP l0) acc l1 (j : Int)) r := by
  induction d with
  | zero =>
    intro j acc hj ha
    by_cases c : (acc.length : Int) > 4000
    · refine ⟨(⟨#[]⟩, false), Ev.step (f := fun _ => some (⟨#[]⟩, false)) (fun k => ?_) (Ev.now _), Ev.step (f := fun _ => some (⟨#[]⟩, false)) (fun k => ?_) (Ev.now _)⟩
      · simp only [spec_EncodeBits.l0, bsize]; rw [if_neg (by omega), if_pos c]
      · simp only [impl_EncodeBits.l0]; rw [if_neg (by omega), if_pos c]
    · refine ⟨(⟨acc.toArray⟩, true), Ev.step (f := fun _ => some (⟨acc.toArray⟩, true)) (fun k => ?_) (Ev.now _), Ev.step (f := fun _ => some (⟨acc.toArray⟩, true)) (fun k => ?_) (Ev.now _)⟩
      · simp only [spec_EncodeBits.l0, bsize]; rw [if_neg (by omega), if_neg c]
      · simp only [impl_EncodeBits.l0]; rw [if_neg (by omega), if_neg c]
  | succ d ih =>
    intro j acc hj ha
    have hlt : j < l1.length := by omega
    have cl : (codesP l0).length = l0.length := codesP_length l0
    by_cases c : 0 ≤ l1[j] ∧ l1[j] ≤ (l0.length : Int) - 1
    · have ci : l1[j].toNat < (codesP l0).length := by rw [cl]; omega
      have hsz := code_size l0 hm _ ci
      have hrd : rdOf ByteArray.empty (codesP l0) l1[j] = (codesP l0).getD l1[j].toNat ByteArray.empty := rfl
      by_cases ce : ((codesP l0).getD l1[j].toNat ByteArray.empty).toList = []
      · refine ⟨(⟨#[]⟩, false), Ev.step (f := fun _ => some (⟨#[]⟩, false)) (fun k => ?_) (Ev.now _), Ev.step (f := fun _ => some (⟨#[]⟩, false)) (fun k => ?_) (Ev.now _)⟩
        · simp only [spec_EncodeBits.l0, cl]
          rw [if_pos (by omega), if_pos (by omega), if_pos (by omega), rdj, getD_at hlt, l1In_eq, w64 (by omega) (by omega), decide_eq_true c]
          simp only [Option.bind_some, if_true]
          rw [if_pos c.1, if_pos (by omega), hrd, if_pos ce]
        · simp only [impl_EncodeBits.l0, cl]
          rw [if_pos (by omega), if_pos (by omega), rdj, getD_at hlt, within_eq, w64 (by omega) (by omega), decide_eq_true c]
          simp only [Option.bind_some, if_true]
          rw [if_pos c.1, if_pos (by omega), hrd, if_pos ce]
      · have hsz2 : ((codesP l0).getD l1[j].toNat ByteArray.empty).data.toList.length ≤ 23 := by
          have : ((codesP l0).getD l1[j].toNat ByteArray.empty).data.toList.length = ((codesP l0).getD l1[j].toNat ByteArray.empty).size := dsize _
          omega
        obtain ⟨r, g1, g2⟩ := ih (j + 1) (acc ++ ((codesP l0).getD l1[j].toNat ByteArray.empty).data.toList) (by omega) (by rw [List.length_append]; omega)
        refine ⟨r, Ev.step (fun k => ?_) g1, Ev.step (fun k => ?_) g2⟩
        · simp only [spec_EncodeBits.l0, cl]
          rw [if_pos (by omega), if_pos (by omega), if_pos (by omega), rdj, getD_at hlt, l1In_eq, w64 (x := (l0.length : Int) - 1) (by omega) (by omega), decide_eq_true c]
          simp only [Option.bind_some, if_true]
          rw [if_pos c.1, if_pos (by omega), hrd, if_neg ce, bsize, if_pos (by omega), bapp, wj (n := l1.length) hlt (by omega)]
        · simp only [impl_EncodeBits.l0, cl]
          rw [if_pos (by omega), if_pos (by omega), rdj, getD_at hlt, within_eq, w64 (x := (l0.length : Int) - 1) (by omega) (by omega), decide_eq_true c]
          simp only [Option.bind_some, if_true]
          rw [if_pos c.1, if_pos (by omega), hrd, if_neg ce, if_pos (by omega), wj (n := l1.length) hlt (by omega)]
    · refine ⟨(⟨#[]⟩, false), Ev.step (f := fun _ => some (⟨#[]⟩, false)) (fun k => ?_) (Ev.now _), Ev.step (f := fun _ => some (⟨#[]⟩, false)) (fun k => ?_) (Ev.now _)⟩
      · simp only [spec_EncodeBits.l0, cl]
        rw [if_pos (by omega), if_pos (by omega), if_pos (by omega), rdj, getD_at hlt, l1In_eq, w64 (by omega) (by omega), decide_eq_false c]
        simp
      · simp only [impl_EncodeBits.l0, cl]
        rw [if_pos (by omega), if_pos (by omega), rdj, getD_at hlt, within_eq, w64 (by omega) (by omega), decide_eq_false c]
        simp
theorem EncodeBits_both (l0 l1 : List Int) (hn0 : l0.length ≤ 1048576) (hn : l1.length ≤ 1048576) : ∃ r : ByteArray × Bool, Ev (fun k => spec_EncodeBits.f k l0 l1) r ∧ Ev (fun k => impl_EncodeBits.f k l0 l1) r := by
  obtain ⟨b, h1, h2, h3⟩ := right_ev l0 hn0
  have sj : Ev (fun k => spec_EncodeBits.j0 k l0 l1 true) (⟨#[]⟩, false) :=
    Ev.step (f := fun _ => some (⟨#[]⟩, false)) (fun k => by simp [spec_EncodeBits.j0]) (Ev.now _)
  cases b with
  | false =>
    refine ⟨(⟨#[]⟩, false), ?_, ?_⟩
    · unfold spec_EncodeBits.f; refine Ev.bind h1 (Ev.congr (fun k => ?_) sj); simp
    · unfold impl_EncodeBits.f; exact Ev.bind h2 (Ev.congr (f := fun _ => some (⟨#[]⟩, false)) (fun k => by simp) (Ev.now _))
  | true =>
    obtain ⟨hl, hm⟩ := (lenB_iff l0).1 (h3 rfl)
    obtain ⟨c1, c2⟩ := codes_ev l0 (by omega)
    by_cases c : (l1.length : Int) > 200
    · refine ⟨(⟨#[]⟩, false), ?_, ?_⟩
      · unfold spec_EncodeBits.f; refine Ev.bind h1 (Ev.congr (fun k => ?_) sj); rw [if_pos rfl, decide_eq_true c]
      · unfold impl_EncodeBits.f; exact Ev.bind h2 (Ev.congr (f := fun _ => some (⟨#[]⟩, false)) (fun k => by rw [if_pos rfl, if_pos c]) (Ev.now _))
    · obtain ⟨r, g1, g2⟩ := encode_l l0 l1 hm (by omega) (by omega) l1.length 0 [] (by omega) (by simp)
      refine ⟨r, ?_, ?_⟩
      · unfold spec_EncodeBits.f
        refine Ev.bind h1 ?_
        simp only [if_true, decide_eq_false c]
        refine Ev.step (f := fun k => (spec_l15Codes.f k l0).bind fun t125 => spec_EncodeBits.l0 k t125 ⟨#[]⟩ l1 (l1.length : Int) 0) (fun k => by simp [spec_EncodeBits.j0]) ?_
        exact Ev.bind c1 g1
      · unfold impl_EncodeBits.f
        refine Ev.bind h2 ?_
        simp only [if_true, if_neg c]
        exact Ev.bind c2 g2

theorem FnExactEncodeBits : laws_FnExactEncodeBits.Pure := by
  intro l0 l1 _ _ _ _ _ _
  refine Ev.law ?_
  unfold laws_FnExactEncodeBits.f
  by_cases hn : (l0.length : Int) > 1048576
  · exact Ev.congr (fun k => by rw [if_pos hn]) (Ev.now _)
  by_cases hn1 : (l1.length : Int) > 1048576
  · exact Ev.congr (fun k => by rw [if_neg hn, if_pos hn1]) (Ev.now _)
  simp only [if_neg hn, if_neg hn1]
  obtain ⟨r, g1, g2⟩ := EncodeBits_both l0 l1 (by omega) (by omega)
  have t0 := toIntS_ev l0 (by omega)
  have t1 := toIntS_ev l1 (by omega)
  refine Ev.bind t0 (Ev.bind t1 (Ev.bind g1 (Ev.bind t0 (Ev.bind t1 (Ev.bind g2 ?_)))))
  simp only [if_true, bne_self_eq_false]
  refine Ev.step (f := fun k => (laws_toIntS.f k l0).bind fun t165 => ((laws_eqIntS.f k l0 t165).bind fun t168 => (if t168 = true then ((laws_toIntS.f k l1).bind fun t169 => ((laws_eqIntS.f k l1 t169).bind fun t172 => (if t172 = true then (some true) else (some false)))) else (some false)))) (fun k => by simp [laws_FnExactEncodeBits.j0]) ?_
  refine Ev.bind t0 (Ev.bind (eqIntS_ev l0 (by omega)) ?_)
  simp only [if_true]
  refine Ev.bind t1 (Ev.bind (eqIntS_ev l1 (by omega)) ?_)
  simp only [if_true]
  exact Ev.now _

end Go.Proofs.Ytagkaanogeafoaa.Pure
