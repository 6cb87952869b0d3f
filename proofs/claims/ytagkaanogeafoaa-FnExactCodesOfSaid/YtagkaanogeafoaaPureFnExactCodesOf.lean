/- The program's CodesOf answers as the reference's CodesOf at every list of whole numbers (of at most 1048576 numbers, as the law asks). -/
import Derived.Test.YtagkaanogeafoaaPFnExactCodesOfx4
import Derived.Lib.RabinKarpLaws
namespace Go.Proofs.Ytagkaanogeafoaa.Pure
open Go.RowKit Go.Proofs.Ytagkaanogeafoaa.PFnExactCodesOf Go.Proofs.YtagkaanogeafoaaW.PrintWords Go.Proofs.YtagkaanogeafoaaW.PrintLast Go.Proofs.YtagkaanogeafoaaW.PrintMore Go.Proofs.YtagkaanogeafoaaOwn
set_option linter.unusedVariables false
set_option linter.unusedSimpArgs false

theorem wj {j n : Nat} (h : j < n) (hn : n ≤ 4611686018427387904) : wrap64 ((j : Int) + 1) = ((j + 1 : Nat) : Int) := by
  unfold wrap64; omega
theorem w64 {x : Int} (h0 : -9223372036854775808 ≤ x) (h1 : x ≤ 9223372036854775807) : wrap64 x = x := by
  unfold wrap64; omega
theorem rdj (l : List Int) (j : Nat) : rd l (j : Int) = l.getD j 0 := rfl
theorem getD_at {α : Type} {l : List α} {j : Nat} (h : j < l.length) (z : α) : l.getD j z = l[j] := by
  rw [List.getD_eq_getElem?_getD, List.getElem?_eq_getElem h]; rfl
theorem Ev.law {g : Nat → Option Bool} (h : Ev g true) : ∃ k, g k = some true := h.rounds
theorem wf_i64 {x : Int} (h : (Lit.int .i64 x).wf = true) : -9223372036854775808 ≤ x ∧ x ≤ 9223372036854775807 := by
  simp only [Lit.wf, IntKind.min, IntKind.max, IntKind.signed, IntKind.bits, Bool.and_eq_true, decide_eq_true_eq, if_true] at h
  omega

theorem l1In_eq (a b c : Int) : spec_l1In.f a b c = some (decide (b ≤ a ∧ a ≤ c)) := by
  unfold spec_l1In.f; by_cases h : b ≤ a <;> simp [h]
theorem within_eq (a b c : Int) : impl_within.f a b c = some (decide (b ≤ a ∧ a ≤ c)) := by
  unfold impl_within.f; by_cases h : b ≤ a <;> simp [h]

theorem toIntS_l (l : List Int) (hn : l.length ≤ 1048576) (d : Nat) : ∀ (j : Nat) (x3 : List Int), j + d = l.length → x3.length = l.length → (∀ i, i < j → x3[i]? = l[i]?) →
    Ev (fun k => laws_toIntS.l0 k l x3 (j : Int)) l := by
  induction d with
  | zero =>
    intro j x3 hj h3 he
    refine Ev.step (f := fun _ => some l) (fun k => ?_) (Ev.now _)
    simp only [laws_toIntS.l0]
    rw [if_neg (by omega)]
    refine congrArg some (List.ext_getElem? fun i => ?_)
    by_cases hi : i < j
    · exact he i hi
    · rw [List.getElem?_eq_none (by omega), List.getElem?_eq_none (by omega)]
  | succ d ih =>
    intro j x3 hj h3 he
    refine Ev.step (fun k => ?_) (ih (j + 1) (x3.set j (rd l j)) (by omega) (by simpa using h3) (fun i hi => ?_))
    · simp only [laws_toIntS.l0]
      rw [if_pos (by omega), if_pos (by omega), if_pos (by omega), wj (n := l.length) (by omega) (by omega)]
      rfl
    · rw [List.getElem?_set]
      split
      · rename_i h
        subst h
        rw [if_pos (by omega), rdj, getD_at (by omega), List.getElem?_eq_getElem (by omega)]
      · exact he i (by omega)
theorem toIntS_ev (l : List Int) (hn : l.length ≤ 1048576) : Ev (fun k => laws_toIntS.f k l) l := by
  refine Ev.congr (fun k => ?_) (toIntS_l l hn l.length 0 (List.replicate l.length 0) (by omega) (by simp) (fun i hi => by omega))
  simp only [laws_toIntS.f]
  rw [if_pos (by omega), if_pos (by omega)]
  rfl

theorem eqIntS_l (l : List Int) (hn : l.length ≤ 1048576) (d : Nat) : ∀ (j : Nat), j + d = l.length → Ev (fun k => laws_eqIntS.l0 k l l (j : Int)) true := by
  induction d with
  | zero =>
    intro j hj
    refine Ev.step (f := fun _ => some true) (fun k => ?_) (Ev.now _)
    simp only [laws_eqIntS.l0]
    rw [if_neg (by omega)]
  | succ d ih =>
    intro j hj
    refine Ev.step (fun k => ?_) (ih (j + 1) (by omega))
    simp only [laws_eqIntS.l0]
    rw [if_pos (by omega), if_pos (by omega), if_pos (by omega), if_pos trivial, wj (n := l.length) (by omega) (by omega)]
theorem eqIntS_ev (l : List Int) (hn : l.length ≤ 1048576) : Ev (fun k => laws_eqIntS.f k l l) true := by
  refine Ev.congr (fun k => ?_) (eqIntS_l l hn l.length 0 (by omega))
  simp only [laws_eqIntS.f]
  rw [if_pos trivial]
  rfl

/-- Numbers that are lengths. -/
def lenB (l : List Int) : Bool := decide (1 ≤ (l.length : Int) ∧ (l.length : Int) ≤ 24) && l.all fun n => decide (0 ≤ n ∧ n ≤ 23)
theorem lenB_iff (l : List Int) : lenB l = true ↔ (1 ≤ (l.length : Int) ∧ (l.length : Int) ≤ 24) ∧ ∀ n ∈ l, 0 ≤ n ∧ n ≤ 23 := by
  simp [lenB, List.all_eq_true]
theorem areLengths_eq (l : List Int) : impl_areLengths.f l = some (lenB l) := by
  unfold impl_areLengths.f impl_areAll_int__82.f
  rw [within_eq, allO_all (q := fun n => decide (0 ≤ n ∧ n ≤ 23)) (fun x => by unfold impl_areLengths_1.f; rw [within_eq]; rfl)]
  simp only [Option.bind_some, lenB]
  by_cases h : 1 ≤ (l.length : Int) ∧ (l.length : Int) ≤ 24 <;> simp [h]
theorem l15Lengths_l (l : List Int) (hn : l.length ≤ 1048576) (d : Nat) : ∀ (j : Nat), j + d = l.length → (∀ n ∈ l.take j, 0 ≤ n ∧ n ≤ 23) → Ev (fun k => spec_l15Lengths.l0 k l l (l.length : Int) (j : Int)) (lenB l) := by
  induction d with
  | zero =>
    intro j hj ha
    refine Ev.step (f := fun _ => some (lenB l)) (fun k => ?_) (Ev.now _)
    simp only [spec_l15Lengths.l0]
    rw [if_neg (by omega), l1In_eq]
    simp only [Option.bind_some, Option.some.injEq, lenB]
    rw [List.take_of_length_le (by omega)] at ha
    rw [show (l.all fun n => decide (0 ≤ n ∧ n ≤ 23)) = true from by simpa [List.all_eq_true] using ha, Bool.and_true]
  | succ d ih =>
    intro j hj ha
    have hlt : j < l.length := by omega
    by_cases hx : 0 ≤ l[j] ∧ l[j] ≤ 23
    · refine Ev.step (fun k => ?_) (ih (j + 1) (by omega) (fun n hm => ?_))
      · simp only [spec_l15Lengths.l0]
        rw [if_pos (by omega), if_pos (by omega), if_pos (by omega), l1In_eq, rdj, getD_at hlt]
        simp only [Option.bind_some, decide_eq_true_eq]
        rw [if_pos hx, wj (n := l.length) hlt (by omega)]
      · rw [List.take_succ_eq_append_getElem hlt, List.mem_append] at hm
        rcases hm with hm | hm
        · exact ha n hm
        · rw [List.mem_singleton.1 hm]; exact hx
    · refine Ev.step (f := fun _ => some (lenB l)) (fun k => ?_) (Ev.now _)
      simp only [spec_l15Lengths.l0]
      rw [if_pos (by omega), if_pos (by omega), if_pos (by omega), l1In_eq, rdj, getD_at hlt]
      simp only [Option.bind_some, decide_eq_true_eq]
      rw [if_neg hx]
      refine congrArg some ?_
      symm
      rw [Bool.eq_false_iff]
      intro h
      exact hx ((lenB_iff l).1 h |>.2 _ (List.getElem_mem hlt))
theorem l15Lengths_ev (l : List Int) (hn : l.length ≤ 1048576) : Ev (fun k => spec_l15Lengths.f k l) (lenB l) :=
  l15Lengths_l l hn l.length 0 (by omega) (by simp)

theorem shl_eq (n : Int) (h0 : 0 ≤ n) (h1 : n ≤ 23) : shl .i64 1 (IntKind.u64.wrap (wrap64 (23 - n))) = shl .i64 1 (wrap64 (23 - n)) := by
  rw [w64 (by omega) (by omega)]
  refine congrArg (shl .i64 1) ?_
  simp only [IntKind.wrap, IntKind.bits, IntKind.signed]; simp; omega
theorem kraft_same (k : Nat) : ∀ (x3 : Int) (l : List Int) (x7 x8 : Int), (∀ n ∈ l, 0 ≤ n ∧ n ≤ 23) → spec_l15Kraft.l0 k x3 l x7 x8 = impl_kraft.l0 k x3 l x7 x8 := by
  induction k with
  | zero => intros; rfl
  | succ k ih =>
    intro x3 l x7 x8 hl
    simp only [spec_l15Kraft.l0, impl_kraft.l0]
    by_cases h1 : x8 < x7
    · rw [if_pos h1, if_pos h1]
      by_cases h2 : 0 ≤ x8
      · rw [if_pos h2, if_pos h2]
        by_cases h3 : x8 < (l.length : Int)
        · rw [if_pos h3, if_pos h3]
          have hm : 0 ≤ rd l x8 ∧ rd l x8 ≤ 23 := by
            have : rd l x8 = l[x8.toNat]'(by omega) := getD_at (by omega) 0
            rw [this]; exact hl _ (List.getElem_mem _)
          by_cases h4 : rd l x8 > 0
          · rw [if_pos h4, if_pos h4, if_pos (by rw [w64 (by omega) (by omega)]; simp only [IntKind.wrap, IntKind.bits, IntKind.signed]; simp; omega), if_pos (by rw [w64 (by omega) (by omega)]; omega), shl_eq _ hm.1 hm.2]
            exact ih _ _ _ _ hl
          · rw [if_neg h4, if_neg h4]
            exact ih _ _ _ _ hl
        · rw [if_neg h3, if_neg h3]
      · rw [if_neg h2, if_neg h2]
    · rw [if_neg h1, if_neg h1]
/-- It ends. -/
theorem kraft_ends (l : List Int) (hl : ∀ n ∈ l, 0 ≤ n ∧ n ≤ 23) (hn : l.length ≤ 1048576) (d : Nat) : ∀ (j : Nat) (x3 : Int), j + d = l.length → ∃ r, Ev (fun k => impl_kraft.l0 k x3 l (l.length : Int) (j : Int)) r := by
  induction d with
  | zero =>
    intro j x3 hj
    refine ⟨x3, Ev.step (f := fun _ => some x3) (fun k => ?_) (Ev.now _)⟩
    simp only [impl_kraft.l0]
    rw [if_neg (by omega)]
  | succ d ih =>
    intro j x3 hj
    have hlt : j < l.length := by omega
    have hm := hl _ (List.getElem_mem hlt)
    by_cases h4 : l[j] > 0
    · obtain ⟨r, hr⟩ := ih (j + 1) (wrap64 (x3 + shl .i64 1 (wrap64 (23 - l[j])))) (by omega)
      refine ⟨r, Ev.step (fun k => ?_) hr⟩
      simp only [impl_kraft.l0]
      rw [if_pos (by omega), if_pos (by omega), if_pos (by omega), rdj, getD_at hlt, if_pos h4, if_pos (by rw [w64 (by omega) (by omega)]; omega), wj (n := l.length) hlt (by omega)]
    · obtain ⟨r, hr⟩ := ih (j + 1) x3 (by omega)
      refine ⟨r, Ev.step (fun k => ?_) hr⟩
      simp only [impl_kraft.l0]
      rw [if_pos (by omega), if_pos (by omega), if_pos (by omega), rdj, getD_at hlt, if_neg h4, wj (n := l.length) hlt (by omega)]
theorem kraft_both (l : List Int) (hl : ∀ n ∈ l, 0 ≤ n ∧ n ≤ 23) (hn : l.length ≤ 1048576) : ∃ r, Ev (fun k => impl_kraft.f k l) r ∧ Ev (fun k => spec_l15Kraft.f k l) r := by
  obtain ⟨r, hr⟩ := kraft_ends l hl hn l.length 0 0 (by omega)
  exact ⟨r, hr, Ev.congr (fun k => kraft_same k 0 l l.length 0 hl) hr⟩

--IMPORT Derived.Lib.RabinKarpLaws
/-- The bytes of a number in so many bits. -/
def bitNum (n s i : Nat) : Int := ((48 + n / 2 ^ (s - 1 - i) % 2 : Nat) : Int)
def bitNums (n s : Nat) : List Int := (List.range s).map (bitNum n s)
def bitText (n s : Nat) : ByteArray := strOfNums (bitNums n s)
theorem bitNums_length (n s : Nat) : (bitNums n s).length = s := by simp [bitNums]
theorem shr_nat (n e : Nat) (he : e ≤ 63) : shr .i64 (n : Int) (e : Int) = ((n / 2 ^ e : Nat) : Int) := by
  unfold shr
  rw [show min (e : Int).toNat IntKind.i64.bits = e from by simp only [IntKind.bits]; omega]
  rw [Int.natCast_ediv, Int.natCast_pow]; rfl
theorem u64_small {x : Int} (h0 : 0 ≤ x) (h1 : x ≤ 9223372036854775807) : IntKind.u64.wrap x = x := by
  simp only [IntKind.wrap, IntKind.bits, IntKind.signed]; simp; omega
theorem bit_step (n e : Nat) (hn : n < 9223372036854775808) : Go.bits .and .i64 ((n / 2 ^ e : Nat) : Int) 1 = ((n / 2 ^ e % 2 : Nat) : Int) :=
  Go.Proofs.and_one (n / 2 ^ e) (Nat.lt_of_le_of_lt (Nat.div_le_self _ _) hn)
theorem bits_l (n s : Nat) (hn : n < 9223372036854775808) (hs : s ≤ 60) (d : Nat) : ∀ (j : Nat) (x : List Int), j + d = s → x.length = s → (∀ i, i < j → x[i]? = some (bitNum n s i)) →
    Ev (fun k => spec_l15Bits.l0 k (n : Int) (s : Int) x (s : Int) (j : Int)) (bitText n s) ∧ Ev (fun k => impl_binary.l0 k (n : Int) (s : Int) x (s : Int) (j : Int)) (bitText n s) := by
  induction d with
  | zero =>
    intro j x hj hx he
    have e : x = bitNums n s := List.ext_getElem? fun i => by
      by_cases hi : i < s
      · rw [he i (by omega)]; simp [bitNums, hi]
      · rw [List.getElem?_eq_none (by omega), List.getElem?_eq_none (by rw [bitNums_length]; omega)]
    subst e
    constructor
    · refine Ev.step (f := fun _ => some (bitText n s)) (fun k => ?_) (Ev.now _)
      simp only [spec_l15Bits.l0]; rw [if_neg (by omega)]; rfl
    · refine Ev.step (f := fun _ => some (bitText n s)) (fun k => ?_) (Ev.now _)
      simp only [impl_binary.l0]; rw [if_neg (by omega)]; rfl
  | succ d ih =>
    intro j x hj hx he
    have hb : 0 ≤ n / 2 ^ (s - 1 - j) % 2 ∧ n / 2 ^ (s - 1 - j) % 2 < 2 := ⟨Nat.zero_le _, Nat.mod_lt _ (by decide)⟩
    have hw : wrap64 (wrap64 ((s : Int) - 1) - (j : Int)) = ((s - 1 - j : Nat) : Int) := by
      rw [w64 (x := (s : Int) - 1) (by omega) (by omega), w64 (by omega) (by omega)]; omega
    obtain ⟨h1, h2⟩ := ih (j + 1) (x.set j (bitNum n s j)) (by omega) (by simpa using hx) (fun i hi => by
      rw [List.getElem?_set]
      split
      · rename_i h; subst h; rw [if_pos (by omega)]
      · exact he i (by omega))
    constructor
    · refine Ev.step (fun k => ?_) h1
      simp only [spec_l15Bits.l0]
      rw [if_pos (by omega), hw, u64_small (by omega) (by omega), if_pos (by omega), if_pos (by omega), if_pos (by omega), shr_nat n _ (by omega), bit_step n _ hn, wj (n := s) (by omega) (by omega)]
      rw [show (48 + ((n / 2 ^ (s - 1 - j) % 2 : Nat) : Int) % 256) % 256 = bitNum n s j from by unfold bitNum; omega]
      rfl
    · refine Ev.step (fun k => ?_) h2
      simp only [impl_binary.l0]
      rw [if_pos (by omega), hw, if_pos (by omega), if_pos (by omega), if_pos (by omega), shr_nat n _ (by omega), bit_step n _ hn, wj (n := s) (by omega) (by omega)]
      rw [show (wrap64 (48 + ((n / 2 ^ (s - 1 - j) % 2 : Nat) : Int))) % 256 = bitNum n s j from by rw [w64 (by omega) (by omega)]; unfold bitNum; omega]
      rfl
theorem bits_ev (n s : Nat) (hn : n < 9223372036854775808) (hs : s ≤ 60) : Ev (fun k => spec_l15Bits.f k (n : Int) (s : Int)) (bitText n s) ∧ Ev (fun k => impl_binary.f k (n : Int) (s : Int)) (bitText n s) := by
  obtain ⟨h1, h2⟩ := bits_l n s hn hs s 0 (List.replicate s 0) (by omega) (by simp) (fun i hi => by omega)
  constructor
  · refine Ev.congr (fun k => ?_) h1
    simp only [spec_l15Bits.f]
    rw [if_pos (by omega), if_pos (by omega)]
    simp
  · refine Ev.congr (fun k => ?_) h2
    simp only [impl_binary.f]
    rw [if_pos (by omega), if_pos (by omega)]
    simp

/-- The codes of one length: of the lengths and what stands there so far; the next number. -/
def cin (s : Nat) : List Int → List ByteArray → Nat → List ByteArray × Nat
  | x :: xs, o :: os, n => if x = (s : Int) then (bitText n s :: (cin s xs os (n + 1)).1, (cin s xs os (n + 1)).2) else (o :: (cin s xs os n).1, (cin s xs os n).2)
  | _, _, n => ([], n)
/-- The codes from one length on. -/
def cout (l : List Int) : Nat → Nat → List ByteArray → Nat → List ByteArray
  | 0, _, out, _ => out
  | d + 1, s, out, n => cout l d (s + 1) (cin s l out (2 * n)).1 (cin s l out (2 * n)).2
/-- The codes of lengths. -/
def codesP (l : List Int) : List ByteArray := cout l 23 1 (List.replicate l.length ⟨#[]⟩) 0
theorem cin_length (s : Nat) : ∀ (l : List Int) (os : List ByteArray) (n : Nat), l.length = os.length → (cin s l os n).1.length = l.length
  | [], [], _, _ => rfl
  | x :: xs, o :: os, n, h => by
    unfold cin
    split
    · simp [cin_length s xs os (n + 1) (by simpa using h)]
    · simp [cin_length s xs os n (by simpa using h)]
theorem cin_le (s : Nat) : ∀ (l : List Int) (os : List ByteArray) (n : Nat), (cin s l os n).2 ≤ n + l.length
  | [], _, n => by simp [cin]
  | x :: xs, [], n => by simp [cin]
  | x :: xs, o :: os, n => by
    unfold cin
    split
    · have := cin_le s xs os (n + 1); simp; omega
    · have := cin_le s xs os n; simp; omega
theorem drop_cons {α : Type} {l : List α} {j : Nat} (h : j < l.length) : l.drop j = l[j] :: l.drop (j + 1) := List.drop_eq_getElem_cons h
theorem shl_at (n q s : Nat) (hq : q ≤ s) (hs : s ≤ 60) (hn : n * 2 ^ (s - q) < 9223372036854775808) : shl .i64 (n : Int) (wrap64 ((s : Int) - (q : Int))) = ((n * 2 ^ (s - q) : Nat) : Int) := by
  rw [w64 (by omega) (by omega)]
  unfold shl
  rw [show min ((s : Int) - (q : Int)).toNat IntKind.i64.bits = s - q from by simp only [IntKind.bits]; omega]
  rw [show (n : Int) * 2 ^ (s - q) = ((n * 2 ^ (s - q) : Nat) : Int) from by rw [Int.natCast_mul, Int.natCast_pow]; rfl]
  generalize n * 2 ^ (s - q) = z at hn
  simp only [IntKind.wrap, IntKind.bits, IntKind.signed]; simp; omega
theorem codes_l1 (l : List Int) (hl : l.length ≤ 24) (s : Nat) (hs0 : 1 ≤ s) (hs : s ≤ 23) (r : List ByteArray)
    (H : ∀ (out : List ByteArray) (n q m : Nat), q ≤ s → m * 2 ^ (s - q) = n → n ≤ 24 * 2 ^ s - 24 → out.length = l.length → (cout l (23 - s) (s + 1) out n = r) →
      Ev (fun k => spec_l15Codes.l0 k l out (n : Int) ((s + 1 : Nat) : Int)) r ∧ Ev (fun k => impl_codesOf.l0 k l out (m : Int) (q : Int) ((s + 1 : Nat) : Int)) r) (d : Nat) :
    ∀ (j : Nat) (pre os : List ByteArray) (n q m : Nat), j + d = l.length → pre.length = j → os.length = d → q ≤ s → m * 2 ^ (s - q) = n → n + d ≤ 24 * 2 ^ s - 24 →
      cout l (23 - s) (s + 1) (pre ++ (cin s (l.drop j) os n).1) (cin s (l.drop j) os n).2 = r →
      Ev (fun k => spec_l15Codes.l1 k l (pre ++ os) (n : Int) (s : Int) l (l.length : Int) (j : Int)) r ∧ Ev (fun k => impl_codesOf.l1 k l (pre ++ os) (m : Int) (q : Int) (s : Int) l (l.length : Int) (j : Int)) r := by
  have hp : 2 ^ s ≤ 8388608 := Nat.pow_le_pow_right (n := 2) (by decide) hs
  induction d with
  | zero =>
    intro j pre os n q m hj hpre hos hq hm hn hr
    obtain rfl : os = [] := List.eq_nil_of_length_eq_zero hos
    rw [List.drop_eq_nil_of_le (by omega)] at hr
    simp only [cin, List.append_nil] at hr
    obtain ⟨h1, h2⟩ := H pre n q m hq hm (by omega) (by omega) hr
    rw [List.append_nil]
    constructor
    · refine Ev.step (fun k => ?_) h1
      simp only [spec_l15Codes.l1]
      rw [if_neg (by omega), w64 (by omega) (by omega)]; rfl
    · refine Ev.step (fun k => ?_) h2
      simp only [impl_codesOf.l1]
      rw [if_neg (by omega), w64 (by omega) (by omega)]; rfl
  | succ d ih =>
    intro j pre os n q m hj hpre hos hq hm hn hr
    have hlt : j < l.length := by omega
    obtain ⟨o, os, rfl⟩ : ∃ o os', os = o :: os' := by cases os with | nil => simp at hos | cons o os => exact ⟨o, os, rfl⟩
    simp only [List.length_cons, Nat.add_right_cancel_iff] at hos
    rw [drop_cons hlt] at hr
    unfold cin at hr
    have hset : ∀ (y : ByteArray), (pre ++ o :: os).set j y = (pre ++ [y]) ++ os := fun y => by
      rw [List.set_append_right _ _ (by omega)]; simp [hpre]
    by_cases hx : l[j] = (s : Int)
    · rw [if_pos hx] at hr
      obtain ⟨h1, h2⟩ := ih (j + 1) (pre ++ [bitText n s]) os (n + 1) s (n + 1) (by omega) (by simp [hpre]) hos (Nat.le_refl _) (by simp) (by omega) (by rw [List.append_assoc]; exact hr)
      obtain ⟨b1, b2⟩ := bits_ev n s (by omega) (by omega)
      constructor
      · refine Ev.step (f := fun k => (spec_l15Bits.f k (n : Int) (s : Int)).bind fun t => spec_l15Codes.l1 k l (pre ++ [t] ++ os) ((n + 1 : Nat) : Int) (s : Int) l (l.length : Int) ((j + 1 : Nat) : Int)) (fun k => ?_) (Ev.bind b1 h1)
        simp only [spec_l15Codes.l1]
        rw [if_pos (by omega), if_pos (by omega), if_pos (by omega), rdj, getD_at hlt, if_pos hx]
        refine congrArg _ (funext fun t => ?_)
        rw [if_pos (by simp; omega), w64 (x := (n : Int) + 1) (by omega) (by omega), wj (n := l.length) hlt (by omega), Int.toNat_natCast, hset]
        rfl
      · refine Ev.step (f := fun k => (impl_binary.f k (n : Int) (s : Int)).bind fun t => impl_codesOf.l1 k l (pre ++ [t] ++ os) ((n + 1 : Nat) : Int) (s : Int) (s : Int) l (l.length : Int) ((j + 1 : Nat) : Int)) (fun k => ?_) (Ev.bind b2 h2)
        simp only [impl_codesOf.l1]
        rw [if_pos (by omega), if_pos (by omega), if_pos (by omega), rdj, getD_at hlt, if_pos hx, if_pos (by rw [w64 (by omega) (by omega)]; omega), shl_at m q s hq (by omega) (by omega), hm]
        refine congrArg _ (funext fun t => ?_)
        rw [if_pos (by simp; omega), w64 (x := (n : Int) + 1) (by omega) (by omega), wj (n := l.length) hlt (by omega), Int.toNat_natCast, hset]
        rfl
    · rw [if_neg hx] at hr
      obtain ⟨h1, h2⟩ := ih (j + 1) (pre ++ [o]) os n q m (by omega) (by simp [hpre]) hos hq hm (by omega) (by rw [List.append_assoc]; exact hr)
      rw [List.append_assoc] at h1 h2
      constructor
      · refine Ev.step (fun k => ?_) h1
        simp only [spec_l15Codes.l1]
        rw [if_pos (by omega), if_pos (by omega), if_pos (by omega), rdj, getD_at hlt, if_neg hx, wj (n := l.length) hlt (by omega)]
        rfl
      · refine Ev.step (fun k => ?_) h2
        simp only [impl_codesOf.l1]
        rw [if_pos (by omega), if_pos (by omega), if_pos (by omega), rdj, getD_at hlt, if_neg hx, wj (n := l.length) hlt (by omega)]
        rfl
theorem codes_l0 (l : List Int) (hl : l.length ≤ 24) (d : Nat) : ∀ (s : Nat) (out : List ByteArray) (n q m : Nat), s + d = 24 → 1 ≤ s → q + 1 ≤ s → m * 2 ^ (s - 1 - q) = n → n ≤ 24 * 2 ^ (s - 1) - 24 → out.length = l.length →
    Ev (fun k => spec_l15Codes.l0 k l out (n : Int) (s : Int)) (cout l d s out n) ∧ Ev (fun k => impl_codesOf.l0 k l out (m : Int) (q : Int) (s : Int)) (cout l d s out n) := by
  induction d with
  | zero =>
    intro s out n q m hs hs1 hq hm hn ho
    constructor
    · refine Ev.step (f := fun _ => some out) (fun k => ?_) (Ev.now _)
      simp only [spec_l15Codes.l0]; rw [if_neg (by omega)]
    · refine Ev.step (f := fun _ => some out) (fun k => ?_) (Ev.now _)
      simp only [impl_codesOf.l0]; rw [if_neg (by omega)]
  | succ d ih =>
    intro s out n q m hs hs1 hq hm hn ho
    have hp : 2 ^ (s - 1) ≤ 8388608 := Nat.pow_le_pow_right (n := 2) (by decide) (show s - 1 ≤ 23 by omega)
    have hps : 2 ^ s = 2 * 2 ^ (s - 1) := by
      rw [show s = (s - 1) + 1 from by omega, Nat.pow_succ]; simp; omega
    have hp1 : 1 ≤ 2 ^ (s - 1) := Nat.one_le_two_pow
    obtain rfl : d = 23 - s := by omega
    obtain ⟨h1, h2⟩ := codes_l1 l hl s hs1 (by omega) (cout l (23 - s + 1) s out n) (fun out' n' q' m' hq' hm' hn' ho' hr' => by
        have := ih (s + 1) out' n' q' m' (by omega) (by omega) (by omega) (by simpa using hm') (by simpa using hn') ho'
        rw [hr'] at this
        exact this) l.length 0 [] out (2 * n) q m (by omega) rfl ho (by omega) (by rw [← hm, show s - q = (s - 1 - q) + 1 from by omega, Nat.pow_succ]; rw [Nat.mul_comm 2, Nat.mul_assoc]) (by omega) (by rfl)
    constructor
    · refine Ev.step (fun k => ?_) h1
      simp only [spec_l15Codes.l0]
      rw [if_pos (by omega), w64 (by omega) (by omega), show (n : Int) * 2 = ((2 * n : Nat) : Int) from by omega]
      rfl
    · refine Ev.step (fun k => ?_) h2
      simp only [impl_codesOf.l0]
      rw [if_pos (by omega)]
      rfl
theorem codes_ev (l : List Int) (hl : l.length ≤ 24) : Ev (fun k => spec_l15Codes.f k l) (codesP l) ∧ Ev (fun k => impl_codesOf.f k l) (codesP l) := by
  obtain ⟨h1, h2⟩ := codes_l0 l hl 23 1 (List.replicate l.length ⟨#[]⟩) 0 0 0 (by omega) (by omega) (by omega) (by omega) (by omega) (by simp)
  constructor
  · refine Ev.congr (fun k => ?_) h1
    simp only [spec_l15Codes.f]
    rw [if_pos (by omega), if_pos (by omega)]
    rfl
  · refine Ev.congr (fun k => ?_) h2
    simp only [impl_codesOf.f]
    rw [if_pos (by omega), if_pos (by omega)]
    rfl

/-- What the lengths come to, as both tell it. -/
theorem right_ev (l : List Int) (hn : l.length ≤ 1048576) : ∃ b, Ev (fun k => spec_l15Right.f k l) b ∧ Ev (fun k => impl_areRight.f k l) b ∧ (b = true → lenB l = true) := by
  cases hb : lenB l with
  | false =>
    refine ⟨false, ?_, ?_, fun h => by cases h⟩
    · unfold spec_l15Right.f
      refine Ev.bind (by have := l15Lengths_ev l hn; rwa [hb] at this) ?_
      exact Ev.congr (fun k => by simp) (Ev.now _)
    · exact Ev.congr (f := fun _ => some false) (fun k => by simp [impl_areRight.f, areLengths_eq, hb]) (Ev.now _)
  | true =>
    obtain ⟨r, h1, h2⟩ := kraft_both l ((lenB_iff l).1 hb).2 hn
    refine ⟨decide (r ≤ 8388608), ?_, ?_, fun _ => rfl⟩
    · unfold spec_l15Right.f
      refine Ev.bind (by have := l15Lengths_ev l hn; rwa [hb] at this) ?_
      simp only [if_true]
      exact Ev.bind h2 (Ev.now _)
    · refine Ev.congr (f := fun k => (impl_kraft.f k l).bind fun t => some (decide (t ≤ 8388608))) (fun k => by simp [impl_areRight.f, areLengths_eq, hb]) (Ev.bind h1 (Ev.now _))

theorem markIntS_l {n : Nat} (hn : n ≤ 1048576) (d : Nat) : ∀ (l : List Int) (c j : Nat), l.length = n → j + d = n → c ≤ 2097152 + j → ∃ l', Ev (fun k => laws_markIntS.l0 k l (c : Int) (j : Int)) (((c + d : Nat) : Int), l') := by
  induction d with
  | zero =>
    intro l c j hl hj hc
    refine ⟨l, Ev.step (f := fun _ => some (((c : Nat) : Int), l)) (fun k => ?_) (Ev.now _)⟩
    simp only [laws_markIntS.l0]; rw [if_neg (by omega)]
  | succ d ih =>
    intro l c j hl hj hc
    obtain ⟨l', h⟩ := ih (l.set j (c : Int)) (c + 1) (j + 1) (by simpa using hl) (by omega) (by omega)
    rw [show c + 1 + d = c + (d + 1) from by omega] at h
    refine ⟨l', Ev.step (fun k => ?_) h⟩
    simp only [laws_markIntS.l0]
    rw [if_pos (by omega), if_pos (by omega), w64 (x := (c : Int) + 1) (by omega) (by omega), wj (j := j) (n := n) (by omega) (by omega)]
    rfl
theorem markIntS_ev (l : List Int) (hn : l.length ≤ 1048576) : ∃ l', Ev (fun k => laws_markIntS.f k l 1) (((1 + l.length : Nat) : Int), l') := by
  obtain ⟨l', h⟩ := markIntS_l (n := l.length) hn l.length l 1 0 rfl (by omega) (by omega)
  exact ⟨l', h⟩

theorem eqStringS_l (l : List ByteArray) (hn : l.length ≤ 1048576) (d : Nat) : ∀ (j : Nat), j + d = l.length → Ev (fun k => laws_eqStringS.l0 k l l (j : Int)) true := by
  induction d with
  | zero =>
    intro j hj
    refine Ev.step (f := fun _ => some true) (fun k => ?_) (Ev.now _)
    simp only [laws_eqStringS.l0]
    rw [if_neg (by omega)]
  | succ d ih =>
    intro j hj
    refine Ev.step (fun k => ?_) (ih (j + 1) (by omega))
    simp only [laws_eqStringS.l0]
    rw [if_pos (by omega), if_pos (by omega), if_pos (by omega), if_pos trivial, wj (n := l.length) (by omega) (by omega)]
theorem eqStringS_ev (l : List ByteArray) (hn : l.length ≤ 1048576) : Ev (fun k => laws_eqStringS.f k l l) true := by
  refine Ev.congr (fun k => ?_) (eqStringS_l l hn l.length 0 (by omega))
  simp only [laws_eqStringS.f]
  rw [if_pos trivial]
  rfl

theorem Ev.uniq {α : Type} {g : Nat → Option α} {r r' : α} (h : Ev g r) (h' : Ev g r') : r = r' := by
  obtain ⟨K, h⟩ := h
  obtain ⟨K', h'⟩ := h'
  have h1 := h (max K K') (by omega)
  have h2 := h' (max K K') (by omega)
  rw [h1] at h2
  exact Option.some.inj h2
theorem markText_l (n : Nat) : ∀ (t : ByteArray), n ≤ 1099511627776 → t.size + n ≤ 2199023255552 → ∃ r, Ev (fun k => laws_markText.l0 k (n : Int) t) r := by
  induction n using Nat.strongRecOn with
  | ind n ih =>
    intro t hn ht
    by_cases h0 : n = 0
    · subst h0
      refine ⟨(⟨#[109]⟩ : ByteArray) ++ t, Ev.step (f := fun _ => some ((⟨#[109]⟩ : ByteArray) ++ t)) (fun k => ?_) (Ev.now _)⟩
      simp only [laws_markText.l0]
      rw [if_neg (by omega), if_pos (by omega)]
    · have hd : n / 10 < n := by omega
      have hs : (strOfNums [(wrap64 (48 + (Int.tmod (n : Int) 10))) % 256]).size = 1 := by simp [strOfNums, ByteArray.size]
      obtain ⟨r, h⟩ := ih (n / 10) hd (strOfNums [(wrap64 (48 + (Int.tmod (n : Int) 10))) % 256] ++ t) (by omega) (by rw [ByteArray.size_append, hs]; omega)
      refine ⟨r, Ev.step (fun k => ?_) h⟩
      simp only [laws_markText.l0, Option.bind_some]
      rw [if_pos (by omega), if_pos (by rw [hs]; omega), show Int.tdiv (n : Int) 10 = ((n / 10 : Nat) : Int) from rfl, w64 (x := ((n / 10 : Nat) : Int)) (by omega) (by omega)]
theorem markText_ev (n : Nat) (hn : n ≤ 1099511627776) : ∃ r, Ev (fun k => laws_markText.f k (n : Int)) r := by
  by_cases h0 : (n : Int) ≤ 0
  · exact ⟨_, Ev.congr (fun k => by simp only [laws_markText.f]; rw [if_pos h0]) (Ev.now _)⟩
  · obtain ⟨r, h⟩ := markText_l n ⟨#[]⟩ hn (by show 0 + n ≤ _; omega)
    exact ⟨r, Ev.congr (fun k => by simp only [laws_markText.f]; rw [if_neg h0]) h⟩
/-- The text of a mark. -/
noncomputable def mtx (n : Nat) : ByteArray := if h : n ≤ 1099511627776 then (markText_ev n h).choose else ⟨#[]⟩
theorem mtx_ev (n : Nat) (hn : n ≤ 1099511627776) : Ev (fun k => laws_markText.f k (n : Int)) (mtx n) := by
  unfold mtx
  rw [dif_pos hn]
  exact (markText_ev n hn).choose_spec
theorem markStringS_l {n : Nat} (hn : n ≤ 1048576) (d : Nat) : ∀ (l : List ByteArray) (c j : Nat), l.length = n → j + d = n → c ≤ 2097152 + j →
    ∃ l', Ev (fun k => laws_markStringS.l0 k l (c : Int) (j : Int)) (((c + d : Nat) : Int), l') ∧ l'.length = n ∧ (∀ i, i < j → l'[i]? = l[i]?) ∧ ∀ i, j ≤ i → i < n → l'[i]? = some (mtx (c + (i - j))) := by
  induction d with
  | zero =>
    intro l c j hl hj hc
    refine ⟨l, Ev.step (f := fun _ => some (((c : Nat) : Int), l)) (fun k => ?_) (Ev.now _), hl, fun _ _ => rfl, fun i h1 h2 => by omega⟩
    simp only [laws_markStringS.l0]; rw [if_neg (by omega)]
  | succ d ih =>
    intro l c j hl hj hc
    obtain ⟨l', h, h1, h2, h3⟩ := ih (l.set j (mtx c)) (c + 1) (j + 1) (by simpa using hl) (by omega) (by omega)
    rw [show c + 1 + d = c + (d + 1) from by omega] at h
    refine ⟨l', Ev.step (f := fun k => (laws_markText.f k (c : Int)).bind fun t => laws_markStringS.l0 k (l.set j t) ((c + 1 : Nat) : Int) ((j + 1 : Nat) : Int)) (fun k => ?_) (Ev.bind (mtx_ev c (by omega)) h), h1, fun i hi => ?_, fun i hi hi' => ?_⟩
    · simp only [laws_markStringS.l0]
      rw [if_pos (by omega)]
      refine congrArg _ (funext fun t => ?_)
      rw [if_pos (by omega), w64 (x := (c : Int) + 1) (by omega) (by omega), wj (j := j) (n := n) (by omega) (by omega)]
      rfl
    · rw [h2 i (by omega), List.getElem?_set_ne (by omega)]
    · by_cases e : i = j
      · subst e
        rw [h2 i (by omega), List.getElem?_set_self (by omega)]
        simp
      · rw [h3 i (by omega) hi', show c + 1 + (i - (j + 1)) = c + (i - j) from by omega]
theorem heldStringS_l (l : List ByteArray) (hn : l.length ≤ 1048576) (b : Nat) (hb : b ≤ 2097152) (hl : ∀ i, i < l.length → l[i]? = some (mtx (b + i))) (d : Nat) : ∀ (j : Nat), j + d = l.length →
    Ev (fun k => laws_heldStringS.l0 k l ((b + j : Nat) : Int) (j : Int)) ((b + l.length : Nat) : Int) := by
  induction d with
  | zero =>
    intro j hj
    obtain rfl : j = l.length := by omega
    refine Ev.step (f := fun _ => some ((b + l.length : Nat) : Int)) (fun k => ?_) (Ev.now _)
    simp only [laws_heldStringS.l0]; rw [if_neg (by omega)]
  | succ d ih =>
    intro j hj
    have hlt : j < l.length := by omega
    refine Ev.step (f := fun k => (laws_markText.f k ((b + j : Nat) : Int)).bind fun t => if (mtx (b + j)).toList = t.toList then laws_heldStringS.l0 k l ((b + (j + 1) : Nat) : Int) ((j + 1 : Nat) : Int) else some (-1)) (fun k => ?_) (Ev.bind (mtx_ev (b + j) (by omega)) (by simpa using ih (j + 1) (by omega)))
    simp only [laws_heldStringS.l0]
    rw [if_pos (by omega), if_pos (by omega)]
    refine congrArg _ (funext fun t => ?_)
    rw [show rdOf ByteArray.empty l (j : Int) = mtx (b + j) from by
      unfold rdOf
      rw [Int.toNat_natCast, getD_at hlt]
      have := hl j hlt
      rw [List.getElem?_eq_getElem hlt] at this
      exact Option.some.inj this]
    rw [w64 (x := ((b + j : Nat) : Int) + 1) (by omega) (by omega), wj (j := j) (n := l.length) hlt (by omega)]
    rfl
/-- What is marked is held. -/
theorem markString_both (l : List ByteArray) (hn : l.length ≤ 1048576) : ∃ l', Ev (fun k => laws_markStringS.f k l 1) (((1 + l.length : Nat) : Int), l') ∧ Ev (fun k => laws_heldStringS.f k l' 1) ((1 + l.length : Nat) : Int) := by
  obtain ⟨l', h, h1, _, h3⟩ := markStringS_l (n := l.length) hn l.length l 1 0 rfl (by omega) (by omega)
  refine ⟨l', h, ?_⟩
  have := heldStringS_l l' (by omega) 1 (by omega) (fun i hi => by rw [h3 i (by omega) (by omega)]; rfl) l'.length 0 (by omega)
  rw [h1] at this
  exact this

theorem cout_length (l : List Int) : ∀ (d s : Nat) (out : List ByteArray) (n : Nat), out.length = l.length → (cout l d s out n).length = l.length
  | 0, _, _, _, h => h
  | d + 1, s, out, n, h => cout_length l d (s + 1) _ _ (cin_length s l out (2 * n) h.symm)
theorem CodesOf_both (l : List Int) (hn : l.length ≤ 1048576) : ∃ r, Ev (fun k => impl_CodesOf.f k l) r ∧ Ev (fun k => spec_CodesOf.f k l) r ∧ r.1.length ≤ 1048576 := by
  obtain ⟨b, h1, h2, h3⟩ := right_ev l hn
  cases b with
  | false =>
    refine ⟨([], false), ?_, ?_, by simp⟩
    · unfold impl_CodesOf.f; exact Ev.bind h2 (Ev.congr (fun k => by simp) (Ev.now _))
    · unfold spec_CodesOf.f; exact Ev.bind h1 (Ev.congr (fun k => by simp) (Ev.now _))
  | true =>
    have hl := ((lenB_iff l).1 (h3 rfl)).1
    obtain ⟨c1, c2⟩ := codes_ev l (by omega)
    refine ⟨(codesP l, true), ?_, ?_, ?_⟩
    · unfold impl_CodesOf.f; refine Ev.bind h2 ?_; simp only [if_true]; exact Ev.bind c2 (Ev.now _)
    · unfold spec_CodesOf.f; refine Ev.bind h1 ?_; simp only [if_true]; exact Ev.bind c1 (Ev.now _)
    · show (codesP l).length ≤ _
      unfold codesP
      rw [cout_length l 23 1 _ _ (by simp)]; omega

theorem FnExactCodesOf : laws_FnExactCodesOf.Pure := by
  intro l _ _ _
  refine Ev.law ?_
  unfold laws_FnExactCodesOf.f
  by_cases hn : (l.length : Int) > 1048576
  · exact Ev.congr (fun k => by rw [if_pos hn]) (Ev.now _)
  have hn' : l.length ≤ 1048576 := by omega
  obtain ⟨⟨c, b⟩, h1, h2, hc⟩ := CodesOf_both l hn'
  obtain ⟨lm, hm⟩ := markIntS_ev l hn'
  obtain ⟨c', m1, m2⟩ := markString_both c hc
  simp only [if_neg hn]
  refine Ev.bind (toIntS_ev l hn') (Ev.bind h2 (Ev.bind (toIntS_ev l hn') (Ev.bind h1 (Ev.bind (eqStringS_ev c hc) ?_))))
  simp only [if_true, bne_self_eq_false]
  -- behind the first comparison
  have J2 : Ev (fun k => laws_FnExactCodesOf.j2 k c' ((1 + c.length : Nat) : Int) false) true := by
    refine Ev.step (f := fun k => (laws_heldStringS.f k c' 1).bind fun t192 => if t192 < 0 then some false else if t192 = ((1 + c.length : Nat) : Int) then some true else some false) (fun k => by simp [laws_FnExactCodesOf.j2]) (Ev.bind m2 ?_)
    exact Ev.congr (f := fun _ => some true) (fun k => by rw [if_neg (by omega), if_pos rfl]) (Ev.now _)
  have J1 : Ev (fun k => laws_FnExactCodesOf.j1 k l c b c false) true := by
    refine Ev.step (fun k => by simp only [laws_FnExactCodesOf.j1]; rw [if_neg (by simp)]) (Ev.bind m1 (Ev.bind m2 ?_))
    have e1 : ¬ (((1 + c.length : Nat) : Int) < 0) := by omega
    simp only [if_neg e1, if_true]
    refine Ev.bind (toIntS_ev l hn') (Ev.bind h1 (Ev.bind (eqStringS_ev c hc) ?_))
    simp only [if_true, bne_self_eq_false]
    exact J2
  refine Ev.step (fun k => by simp only [laws_FnExactCodesOf.j0]; rw [if_neg (by simp)]) (Ev.bind (toIntS_ev l hn') (Ev.bind (eqIntS_ev l hn') ?_))
  simp only [if_true]
  refine Ev.bind hm ?_
  have e2 : ¬ (((1 + l.length : Nat) : Int) < 0) := by omega
  simp only [if_neg e2]
  refine Ev.bind (eqStringS_ev c hc) ?_
  simp only [if_true, bne_self_eq_false]
  exact J1

end Go.Proofs.Ytagkaanogeafoaa.Pure
