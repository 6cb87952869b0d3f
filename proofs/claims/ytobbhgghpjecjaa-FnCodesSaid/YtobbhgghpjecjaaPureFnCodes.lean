/- No code of drawn lengths begins another one, and each has its length and its place. -/
import Derived.Test.YtobbhgghpjecjaaPFnCodesx7
import Derived.Lib.RabinKarpLaws
import Derived.Lib.Split
namespace Go.Proofs.Ytobbhgghpjecjaa.Pure
open Go.RowKit Go.Proofs.Ytobbhgghpjecjaa.PFnCodes Go.Proofs.YtobbhgghpjecjaaW.PrintWords Go.Proofs.YtobbhgghpjecjaaW.PrintLast Go.Proofs.YtobbhgghpjecjaaW.PrintMore Go.Proofs.YtobbhgghpjecjaaOwn
set_option linter.unusedVariables false
set_option linter.unusedSimpArgs false

theorem wj {j n : Nat} (h : j < n) (hn : n ≤ 4611686018427387904) : wrap64 ((j : Int) + 1) = ((j + 1 : Nat) : Int) := by
  unfold wrap64; omega
theorem w64 {x : Int} (h0 : -9223372036854775808 ≤ x) (h1 : x ≤ 9223372036854775807) : wrap64 x = x := by
  unfold wrap64; omega
theorem rdj (l : List Int) (j : Nat) : rd l (j : Int) = l.getD j 0 := rfl
theorem getD_at {α : Type} {l : List α} {j : Nat} (h : j < l.length) (z : α) : l.getD j z = l[j] := by
  rw [List.getD_eq_getElem?_getD, List.getElem?_eq_getElem h]; rfl
theorem Ev.law {g : Nat → Option Bool} (h : Ev g true) : ∃ k, g k = some true := h.rounds
theorem wf_i64 {x : Int} (h : (Lit.int .i64 x).wf = true) : -9223372036854775808 ≤ x ∧ x ≤ 9223372036854775807 := by
  simp only [Lit.wf, IntKind.min, IntKind.max, IntKind.signed, IntKind.bits, Bool.and_eq_true, decide_eq_true_eq, if_true] at h
  omega

theorem l1In_eq (a b c : Int) : spec_l1In.f a b c = some (decide (b ≤ a ∧ a ≤ c)) := by
  unfold spec_l1In.f; by_cases h : b ≤ a <;> simp [h]
theorem within_eq (a b c : Int) : impl_within.f a b c = some (decide (b ≤ a ∧ a ≤ c)) := by
  unfold impl_within.f; by_cases h : b ≤ a <;> simp [h]

/-- Numbers that are lengths. -/
def lenB (l : List Int) : Bool := decide (1 ≤ (l.length : Int) ∧ (l.length : Int) ≤ 24) && l.all fun n => decide (0 ≤ n ∧ n ≤ 23)
theorem lenB_iff (l : List Int) : lenB l = true ↔ (1 ≤ (l.length : Int) ∧ (l.length : Int) ≤ 24) ∧ ∀ n ∈ l, 0 ≤ n ∧ n ≤ 23 := by
  simp [lenB, List.all_eq_true]
theorem areLengths_eq (l : List Int) : impl_areLengths.f l = some (lenB l) := by
  unfold impl_areLengths.f impl_areAll_int__90.f
  rw [within_eq, allO_all (q := fun n => decide (0 ≤ n ∧ n ≤ 23)) (fun x => by unfold impl_areLengths_1.f; rw [within_eq]; rfl)]
  simp only [Option.bind_some, lenB]
  by_cases h : 1 ≤ (l.length : Int) ∧ (l.length : Int) ≤ 24 <;> simp [h]
theorem l15Lengths_l (l : List Int) (hn : l.length ≤ 1048576) (d : Nat) : ∀ (j : Nat), j + d = l.length → (∀ n ∈ l.take j, 0 ≤ n ∧ n ≤ 23) → Ev (fun k => spec_l15Lengths.l0 k l l (l.length : Int) (j : Int)) (lenB l) := by
  induction d with
  | zero =>
    intro j hj ha
    refine Ev.step (f := fun _ => some (lenB l)) (fun k => ?_) (Ev.now _)
    simp only [spec_l15Lengths.l0]
    rw [if_neg (by omega), l1In_eq]
    simp only [Option.bind_some, Option.some.injEq, lenB]
    rw [List.take_of_length_le (by omega)] at ha
    rw [show (l.all fun n => decide (0 ≤ n ∧ n ≤ 23)) = true from by simpa [List.all_eq_true] using ha, Bool.and_true]
  | succ d ih =>
    intro j hj ha
    have hlt : j < l.length := by omega
    by_cases hx : 0 ≤ l[j] ∧ l[j] ≤ 23
    · refine Ev.step (fun k => ?_) (ih (j + 1) (by omega) (fun n hm => ?_))
      · simp only [spec_l15Lengths.l0]
        rw [if_pos (by omega), if_pos (by omega), if_pos (by omega), l1In_eq, rdj, getD_at hlt]
        simp only [Option.bind_some, decide_eq_true_eq]
        rw [if_pos hx, wj (n := l.length) hlt (by omega)]
      · rw [List.take_succ_eq_append_getElem hlt, List.mem_append] at hm
        rcases hm with hm | hm
        · exact ha n hm
        · rw [List.mem_singleton.1 hm]; exact hx
    · refine Ev.step (f := fun _ => some (lenB l)) (fun k => ?_) (Ev.now _)
      simp only [spec_l15Lengths.l0]
      rw [if_pos (by omega), if_pos (by omega), if_pos (by omega), l1In_eq, rdj, getD_at hlt]
      simp only [Option.bind_some, decide_eq_true_eq]
      rw [if_neg hx]
      refine congrArg some ?_
      symm
      rw [Bool.eq_false_iff]
      intro h
      exact hx ((lenB_iff l).1 h |>.2 _ (List.getElem_mem hlt))
theorem l15Lengths_ev (l : List Int) (hn : l.length ≤ 1048576) : Ev (fun k => spec_l15Lengths.f k l) (lenB l) :=
  l15Lengths_l l hn l.length 0 (by omega) (by simp)

theorem shl_eq (n : Int) (h0 : 0 ≤ n) (h1 : n ≤ 23) : shl .i64 1 (IntKind.u64.wrap (wrap64 (23 - n))) = shl .i64 1 (wrap64 (23 - n)) := by
  rw [w64 (by omega) (by omega)]
  refine congrArg (shl .i64 1) ?_
  simp only [IntKind.wrap, IntKind.bits, IntKind.signed]; simp; omega
theorem kraft_same (k : Nat) : ∀ (x3 : Int) (l : List Int) (x7 x8 : Int), (∀ n ∈ l, 0 ≤ n ∧ n ≤ 23) → spec_l15Kraft.l0 k x3 l x7 x8 = impl_kraft.l0 k x3 l x7 x8 := by
  induction k with
  | zero => intros; rfl
  | succ k ih =>
    intro x3 l x7 x8 hl
    simp only [spec_l15Kraft.l0, impl_kraft.l0]
    by_cases h1 : x8 < x7
    · rw [if_pos h1, if_pos h1]
      by_cases h2 : 0 ≤ x8
      · rw [if_pos h2, if_pos h2]
        by_cases h3 : x8 < (l.length : Int)
        · rw [if_pos h3, if_pos h3]
          have hm : 0 ≤ rd l x8 ∧ rd l x8 ≤ 23 := by
            have : rd l x8 = l[x8.toNat]'(by omega) := getD_at (by omega) 0
            rw [this]; exact hl _ (List.getElem_mem _)
          by_cases h4 : rd l x8 > 0
          · rw [if_pos h4, if_pos h4, if_pos (by rw [w64 (by omega) (by omega)]; simp only [IntKind.wrap, IntKind.bits, IntKind.signed]; simp; omega), if_pos (by rw [w64 (by omega) (by omega)]; omega), shl_eq _ hm.1 hm.2]
            exact ih _ _ _ _ hl
          · rw [if_neg h4, if_neg h4]
            exact ih _ _ _ _ hl
        · rw [if_neg h3, if_neg h3]
      · rw [if_neg h2, if_neg h2]
    · rw [if_neg h1, if_neg h1]
/-- It ends. -/
theorem kraft_ends (l : List Int) (hl : ∀ n ∈ l, 0 ≤ n ∧ n ≤ 23) (hn : l.length ≤ 1048576) (d : Nat) : ∀ (j : Nat) (x3 : Int), j + d = l.length → ∃ r, Ev (fun k => impl_kraft.l0 k x3 l (l.length : Int) (j : Int)) r := by
  induction d with
  | zero =>
    intro j x3 hj
    refine ⟨x3, Ev.step (f := fun _ => some x3) (fun k => ?_) (Ev.now _)⟩
    simp only [impl_kraft.l0]
    rw [if_neg (by omega)]
  | succ d ih =>
    intro j x3 hj
    have hlt : j < l.length := by omega
    have hm := hl _ (List.getElem_mem hlt)
    by_cases h4 : l[j] > 0
    · obtain ⟨r, hr⟩ := ih (j + 1) (wrap64 (x3 + shl .i64 1 (wrap64 (23 - l[j])))) (by omega)
      refine ⟨r, Ev.step (fun k => ?_) hr⟩
      simp only [impl_kraft.l0]
      rw [if_pos (by omega), if_pos (by omega), if_pos (by omega), rdj, getD_at hlt, if_pos h4, if_pos (by rw [w64 (by omega) (by omega)]; omega), wj (n := l.length) hlt (by omega)]
    · obtain ⟨r, hr⟩ := ih (j + 1) x3 (by omega)
      refine ⟨r, Ev.step (fun k => ?_) hr⟩
      simp only [impl_kraft.l0]
      rw [if_pos (by omega), if_pos (by omega), if_pos (by omega), rdj, getD_at hlt, if_neg h4, wj (n := l.length) hlt (by omega)]
theorem kraft_both (l : List Int) (hl : ∀ n ∈ l, 0 ≤ n ∧ n ≤ 23) (hn : l.length ≤ 1048576) : ∃ r, Ev (fun k => impl_kraft.f k l) r ∧ Ev (fun k => spec_l15Kraft.f k l) r := by
  obtain ⟨r, hr⟩ := kraft_ends l hl hn l.length 0 0 (by omega)
  exact ⟨r, hr, Ev.congr (fun k => kraft_same k 0 l l.length 0 hl) hr⟩

--IMPORT Derived.Lib.RabinKarpLaws
/-- The bytes of a number in so many bits. -/
def bitNum (n s i : Nat) : Int := ((48 + n / 2 ^ (s - 1 - i) % 2 : Nat) : Int)
def bitNums (n s : Nat) : List Int := (List.range s).map (bitNum n s)
def bitText (n s : Nat) : ByteArray := strOfNums (bitNums n s)
theorem bitNums_length (n s : Nat) : (bitNums n s).length = s := by simp [bitNums]
theorem shr_nat (n e : Nat) (he : e ≤ 63) : shr .i64 (n : Int) (e : Int) = ((n / 2 ^ e : Nat) : Int) := by
  unfold shr
  rw [show min (e : Int).toNat IntKind.i64.bits = e from by simp only [IntKind.bits]; omega]
  rw [Int.natCast_ediv, Int.natCast_pow]; rfl
theorem u64_small {x : Int} (h0 : 0 ≤ x) (h1 : x ≤ 9223372036854775807) : IntKind.u64.wrap x = x := by
  simp only [IntKind.wrap, IntKind.bits, IntKind.signed]; simp; omega
theorem bit_step (n e : Nat) (hn : n < 9223372036854775808) : Go.bits .and .i64 ((n / 2 ^ e : Nat) : Int) 1 = ((n / 2 ^ e % 2 : Nat) : Int) :=
  Go.Proofs.and_one (n / 2 ^ e) (Nat.lt_of_le_of_lt (Nat.div_le_self _ _) hn)
theorem bits_l (n s : Nat) (hn : n < 9223372036854775808) (hs : s ≤ 60) (d : Nat) : ∀ (j : Nat) (x : List Int), j + d = s → x.length = s → (∀ i, i < j → x[i]? = some (bitNum n s i)) →
    Ev (fun k => spec_l15Bits.l0 k (n : Int) (s : Int) x (s : Int) (j : Int)) (bitText n s) ∧ Ev (fun k => impl_binary.l0 k (n : Int) (s : Int) x (s : Int) (j : Int)) (bitText n s) := by
  induction d with
  | zero =>
    intro j x hj hx he
    have e : x = bitNums n s := List.ext_getElem? fun i => by
      by_cases hi : i < s
      · rw [he i (by omega)]; simp [bitNums, hi]
      · rw [List.getElem?_eq_none (by omega), List.getElem?_eq_none (by rw [bitNums_length]; omega)]
    subst e
    constructor
    · refine Ev.step (f := fun _ => some (bitText n s)) (fun k => ?_) (Ev.now _)
      simp only [spec_l15Bits.l0]; rw [if_neg (by omega)]; rfl
    · refine Ev.step (f := fun _ => some (bitText n s)) (fun k => ?_) (Ev.now _)
      simp only [impl_binary.l0]; rw [if_neg (by omega)]; rfl
  | succ d ih =>
    intro j x hj hx he
    have hb : 0 ≤ n / 2 ^ (s - 1 - j) % 2 ∧ n / 2 ^ (s - 1 - j) % 2 < 2 := ⟨Nat.zero_le _, Nat.mod_lt _ (by decide)⟩
    have hw : wrap64 (wrap64 ((s : Int) - 1) - (j : Int)) = ((s - 1 - j : Nat) : Int) := by
      rw [w64 (x := (s : Int) - 1) (by omega) (by omega), w64 (by omega) (by omega)]; omega
    obtain ⟨h1, h2⟩ := ih (j + 1) (x.set j (bitNum n s j)) (by omega) (by simpa using hx) (fun i hi => by
      rw [List.getElem?_set]
      split
      · rename_i h; subst h; rw [if_pos (by omega)]
      · exact he i (by omega))
    constructor
    · refine Ev.step (fun k => ?_) h1
      simp only [spec_l15Bits.l0]
      rw [if_pos (by omega), hw, u64_small (by omega) (by omega), if_pos (by omega), if_pos (by omega), if_pos (by omega), shr_nat n _ (by omega), bit_step n _ hn, wj (n := s) (by omega) (by omega)]
      rw [show (48 + ((n / 2 ^ (s - 1 - j) % 2 : Nat) : Int) % 256) % 256 = bitNum n s j from by unfold bitNum; omega]
      rfl
    · refine Ev.step (fun k => ?_) h2
      simp only [impl_binary.l0]
      rw [if_pos (by omega), hw, if_pos (by omega), if_pos (by omega), if_pos (by omega), shr_nat n _ (by omega), bit_step n _ hn, wj (n := s) (by omega) (by omega)]
      rw [show (wrap64 (48 + ((n / 2 ^ (s - 1 - j) % 2 : Nat) : Int))) % 256 = bitNum n s j from by rw [w64 (by omega) (by omega)]; unfold bitNum; omega]
      rfl
theorem bits_ev (n s : Nat) (hn : n < 9223372036854775808) (hs : s ≤ 60) : Ev (fun k => spec_l15Bits.f k (n : Int) (s : Int)) (bitText n s) ∧ Ev (fun k => impl_binary.f k (n : Int) (s : Int)) (bitText n s) := by
  obtain ⟨h1, h2⟩ := bits_l n s hn hs s 0 (List.replicate s 0) (by omega) (by simp) (fun i hi => by omega)
  constructor
  · refine Ev.congr (fun k => ?_) h1
    simp only [spec_l15Bits.f]
    rw [if_pos (by omega), if_pos (by omega)]
    simp
  · refine Ev.congr (fun k => ?_) h2
    simp only [impl_binary.f]
    rw [if_pos (by omega), if_pos (by omega)]
    simp

/-- The codes of one length: of the lengths and what stands there so far; the next number. -/
def cin (s : Nat) : List Int → List ByteArray → Nat → List ByteArray × Nat
  | x :: xs, o :: os, n => if x = (s : Int) then (bitText n s :: (cin s xs os (n + 1)).1, (cin s xs os (n + 1)).2) else (o :: (cin s xs os n).1, (cin s xs os n).2)
  | _, _, n => ([], n)
/-- The codes from one length on. -/
def cout (l : List Int) : Nat → Nat → List ByteArray → Nat → List ByteArray
  | 0, _, out, _ => out
  | d + 1, s, out, n => cout l d (s + 1) (cin s l out (2 * n)).1 (cin s l out (2 * n)).2
/-- The codes of lengths. -/
def codesP (l : List Int) : List ByteArray := cout l 23 1 (List.replicate l.length ⟨#[]⟩) 0
theorem cin_length (s : Nat) : ∀ (l : List Int) (os : List ByteArray) (n : Nat), l.length = os.length → (cin s l os n).1.length = l.length
  | [], [], _, _ => rfl
  | x :: xs, o :: os, n, h => by
    unfold cin
    split
    · simp [cin_length s xs os (n + 1) (by simpa using h)]
    · simp [cin_length s xs os n (by simpa using h)]
theorem cin_le (s : Nat) : ∀ (l : List Int) (os : List ByteArray) (n : Nat), (cin s l os n).2 ≤ n + l.length
  | [], _, n => by simp [cin]
  | x :: xs, [], n => by simp [cin]
  | x :: xs, o :: os, n => by
    unfold cin
    split
    · have := cin_le s xs os (n + 1); simp; omega
    · have := cin_le s xs os n; simp; omega
theorem drop_cons {α : Type} {l : List α} {j : Nat} (h : j < l.length) : l.drop j = l[j] :: l.drop (j + 1) := List.drop_eq_getElem_cons h
theorem shl_at (n q s : Nat) (hq : q ≤ s) (hs : s ≤ 60) (hn : n * 2 ^ (s - q) < 9223372036854775808) : shl .i64 (n : Int) (wrap64 ((s : Int) - (q : Int))) = ((n * 2 ^ (s - q) : Nat) : Int) := by
  rw [w64 (by omega) (by omega)]
  unfold shl
  rw [show min ((s : Int) - (q : Int)).toNat IntKind.i64.bits = s - q from by simp only [IntKind.bits]; omega]
  rw [show (n : Int) * 2 ^ (s - q) = ((n * 2 ^ (s - q) : Nat) : Int) from by rw [Int.natCast_mul, Int.natCast_pow]; rfl]
  generalize n * 2 ^ (s - q) = z at hn
  simp only [IntKind.wrap, IntKind.bits, IntKind.signed]; simp; omega
theorem codes_l1 (l : List Int) (hl : l.length ≤ 24) (s : Nat) (hs0 : 1 ≤ s) (hs : s ≤ 23) (r : List ByteArray)
    (H : ∀ (out : List ByteArray) (n q m : Nat), q ≤ s → m * 2 ^ (s - q) = n → n ≤ 24 * 2 ^ s - 24 → out.length = l.length → (cout l (23 - s) (s + 1) out n = r) →
      Ev (fun k => spec_l15Codes.l0 k l out (n : Int) ((s + 1 : Nat) : Int)) r ∧ Ev (fun k => impl_codesOf.l0 k l out (m : Int) (q : Int) ((s + 1 : Nat) : Int)) r) (d : Nat) :
    ∀ (j : Nat) (pre os : List ByteArray) (n q m : Nat), j + d = l.length → pre.length = j → os.length = d → q ≤ s → m * 2 ^ (s - q) = n → n + d ≤ 24 * 2 ^ s - 24 →
      cout l (23 - s) (s + 1) (pre ++ (cin s (l.drop j) os n).1) (cin s (l.drop j) os n).2 = r →
      Ev (fun k => spec_l15Codes.l1 k l (pre ++ os) (n : Int) (s : Int) l (l.length : Int) (j : Int)) r ∧ Ev (fun k => impl_codesOf.l1 k l (pre ++ os) (m : Int) (q : Int) (s : Int) l (l.length : Int) (j : Int)) r := by
  have hp : 2 ^ s ≤ 8388608 := Nat.pow_le_pow_right (n := 2) (by decide) hs
  induction d with
  | zero =>
    intro j pre os n q m hj hpre hos hq hm hn hr
    obtain rfl : os = [] := List.eq_nil_of_length_eq_zero hos
    rw [List.drop_eq_nil_of_le (by omega)] at hr
    simp only [cin, List.append_nil] at hr
    obtain ⟨h1, h2⟩ := H pre n q m hq hm (by omega) (by omega) hr
    rw [List.append_nil]
    constructor
    · refine Ev.step (fun k => ?_) h1
      simp only [spec_l15Codes.l1]
      rw [if_neg (by omega), w64 (by omega) (by omega)]; rfl
    · refine Ev.step (fun k => ?_) h2
      simp only [impl_codesOf.l1]
      rw [if_neg (by omega), w64 (by omega) (by omega)]; rfl
  | succ d ih =>
    intro j pre os n q m hj hpre hos hq hm hn hr
    have hlt : j < l.length := by omega
    obtain ⟨o, os, rfl⟩ : ∃ o os', os = o :: os' := by cases os with | nil => simp at hos | cons o os => exact ⟨o, os, rfl⟩
    simp only [List.length_cons, Nat.add_right_cancel_iff] at hos
    rw [drop_cons hlt] at hr
    unfold cin at hr
    have hset : ∀ (y : ByteArray), (pre ++ o :: os).set j y = (pre ++ [y]) ++ os := fun y => by
      rw [List.set_append_right _ _ (by omega)]; simp [hpre]
    by_cases hx : l[j] = (s : Int)
    · rw [if_pos hx] at hr
      obtain ⟨h1, h2⟩ := ih (j + 1) (pre ++ [bitText n s]) os (n + 1) s (n + 1) (by omega) (by simp [hpre]) hos (Nat.le_refl _) (by simp) (by omega) (by rw [List.append_assoc]; exact hr)
      obtain ⟨b1, b2⟩ := bits_ev n s (by omega) (by omega)
      constructor
      · refine Ev.step (f := fun k => (spec_l15Bits.f k (n : Int) (s : Int)).bind fun t => spec_l15Codes.l1 k l (pre ++ [t] ++ os) ((n + 1 : Nat) : Int) (s : Int) l (l.length : Int) ((j + 1 : Nat) : Int)) (fun k => ?_) (Ev.bind b1 h1)
        simp only [spec_l15Codes.l1]
        rw [if_pos (by omega), if_pos (by omega), if_pos (by omega), rdj, getD_at hlt, if_pos hx]
        refine congrArg _ (funext fun t => ?_)
        rw [if_pos (by simp; omega), w64 (x := (n : Int) + 1) (by omega) (by omega), wj (n := l.length) hlt (by omega), Int.toNat_natCast, hset]
        rfl
      · refine Ev.step (f := fun k => (impl_binary.f k (n : Int) (s : Int)).bind fun t => impl_codesOf.l1 k l (pre ++ [t] ++ os) ((n + 1 : Nat) : Int) (s : Int) (s : Int) l (l.length : Int) ((j + 1 : Nat) : Int)) (fun k => ?_) (Ev.bind b2 h2)
        simp only [impl_codesOf.l1]
        rw [if_pos (by omega), if_pos (by omega), if_pos (by omega), rdj, getD_at hlt, if_pos hx, if_pos (by rw [w64 (by omega) (by omega)]; omega), shl_at m q s hq (by omega) (by omega), hm]
        refine congrArg _ (funext fun t => ?_)
        rw [if_pos (by simp; omega), w64 (x := (n : Int) + 1) (by omega) (by omega), wj (n := l.length) hlt (by omega), Int.toNat_natCast, hset]
        rfl
    · rw [if_neg hx] at hr
      obtain ⟨h1, h2⟩ := ih (j + 1) (pre ++ [o]) os n q m (by omega) (by simp [hpre]) hos hq hm (by omega) (by rw [List.append_assoc]; exact hr)
      rw [List.append_assoc] at h1 h2
      constructor
      · refine Ev.step (fun k => ?_) h1
        simp only [spec_l15Codes.l1]
        rw [if_pos (by omega), if_pos (by omega), if_pos (by omega), rdj, getD_at hlt, if_neg hx, wj (n := l.length) hlt (by omega)]
        rfl
      · refine Ev.step (fun k => ?_) h2
        simp only [impl_codesOf.l1]
        rw [if_pos (by omega), if_pos (by omega), if_pos (by omega), rdj, getD_at hlt, if_neg hx, wj (n := l.length) hlt (by omega)]
        rfl
theorem codes_l0 (l : List Int) (hl : l.length ≤ 24) (d : Nat) : ∀ (s : Nat) (out : List ByteArray) (n q m : Nat), s + d = 24 → 1 ≤ s → q + 1 ≤ s → m * 2 ^ (s - 1 - q) = n → n ≤ 24 * 2 ^ (s - 1) - 24 → out.length = l.length →
    Ev (fun k => spec_l15Codes.l0 k l out (n : Int) (s : Int)) (cout l d s out n) ∧ Ev (fun k => impl_codesOf.l0 k l out (m : Int) (q : Int) (s : Int)) (cout l d s out n) := by
  induction d with
  | zero =>
    intro s out n q m hs hs1 hq hm hn ho
    constructor
    · refine Ev.step (f := fun _ => some out) (fun k => ?_) (Ev.now _)
      simp only [spec_l15Codes.l0]; rw [if_neg (by omega)]
    · refine Ev.step (f := fun _ => some out) (fun k => ?_) (Ev.now _)
      simp only [impl_codesOf.l0]; rw [if_neg (by omega)]
  | succ d ih =>
    intro s out n q m hs hs1 hq hm hn ho
    have hp : 2 ^ (s - 1) ≤ 8388608 := Nat.pow_le_pow_right (n := 2) (by decide) (show s - 1 ≤ 23 by omega)
    have hps : 2 ^ s = 2 * 2 ^ (s - 1) := by
      rw [show s = (s - 1) + 1 from by omega, Nat.pow_succ]; simp; omega
    have hp1 : 1 ≤ 2 ^ (s - 1) := Nat.one_le_two_pow
    obtain rfl : d = 23 - s := by omega
    obtain ⟨h1, h2⟩ := codes_l1 l hl s hs1 (by omega) (cout l (23 - s + 1) s out n) (fun out' n' q' m' hq' hm' hn' ho' hr' => by
        have := ih (s + 1) out' n' q' m' (by omega) (by omega) (by omega) (by simpa using hm') (by simpa using hn') ho'
        rw [hr'] at this
        exact this) l.length 0 [] out (2 * n) q m (by omega) rfl ho (by omega) (by rw [← hm, show s - q = (s - 1 - q) + 1 from by omega, Nat.pow_succ]; rw [Nat.mul_comm 2, Nat.mul_assoc]) (by omega) (by rfl)
    constructor
    · refine Ev.step (fun k => ?_) h1
      simp only [spec_l15Codes.l0]
      rw [if_pos (by omega), w64 (by omega) (by omega), show (n : Int) * 2 = ((2 * n : Nat) : Int) from by omega]
      rfl
    · refine Ev.step (fun k => ?_) h2
      simp only [impl_codesOf.l0]
      rw [if_pos (by omega)]
      rfl
theorem codes_ev (l : List Int) (hl : l.length ≤ 24) : Ev (fun k => spec_l15Codes.f k l) (codesP l) ∧ Ev (fun k => impl_codesOf.f k l) (codesP l) := by
  obtain ⟨h1, h2⟩ := codes_l0 l hl 23 1 (List.replicate l.length ⟨#[]⟩) 0 0 0 (by omega) (by omega) (by omega) (by omega) (by omega) (by simp)
  constructor
  · refine Ev.congr (fun k => ?_) h1
    simp only [spec_l15Codes.f]
    rw [if_pos (by omega), if_pos (by omega)]
    rfl
  · refine Ev.congr (fun k => ?_) h2
    simp only [impl_codesOf.f]
    rw [if_pos (by omega), if_pos (by omega)]
    rfl

--IMPORT Derived.Lib.Split
/-- How many of a list are s. -/
def cnt (s : Nat) : List Int → Nat
  | [] => 0
  | x :: xs => (if x = (s : Int) then 1 else 0) + cnt s xs
/-- The first number of the codes of length d + 1. -/
def stp (l : List Int) : Nat → Nat
  | 0 => 0
  | d + 1 => 2 * (stp l d + cnt (d + 1) l)
/-- The number of a code of length a at place i. -/
def numOf (l : List Int) (a i : Nat) : Nat := stp l (a - 1) + cnt a (l.take i)
/-- How much room lengths need, up to one. -/
def roomTo (s : Nat) : List Int → Nat
  | [] => 0
  | x :: xs => (if 1 ≤ x ∧ x ≤ (s : Int) then 2 ^ (23 - x.toNat) else 0) + roomTo s xs
theorem cin_at (s : Nat) : ∀ (l : List Int) (os : List ByteArray) (n i : Nat), l.length = os.length → (h : i < l.length) →
    (cin s l os n).1[i]? = if l[i] = (s : Int) then some (bitText (n + cnt s (l.take i)) s) else os[i]?
  | x :: xs, o :: os, n, 0, _, _ => by
    unfold cin
    by_cases c : x = (s : Int)
    · simp [c, cnt]
    · simp [c]
  | x :: xs, o :: os, n, i + 1, hl, h => by
    have hl' : xs.length = os.length := by simpa using hl
    have h' : i < xs.length := by simpa using h
    unfold cin
    by_cases c : x = (s : Int)
    · rw [if_pos c]
      have := cin_at s xs os (n + 1) i hl' h'
      simp only [List.getElem?_cons_succ, List.getElem_cons_succ, List.take_succ_cons, cnt, if_pos c]
      rw [this, Nat.add_assoc]
    · rw [if_neg c]
      have := cin_at s xs os n i hl' h'
      simp only [List.getElem?_cons_succ, List.getElem_cons_succ, List.take_succ_cons, cnt, if_neg c]
      rw [this, Nat.zero_add]
theorem cin_next (s : Nat) : ∀ (l : List Int) (os : List ByteArray) (n : Nat), l.length = os.length → (cin s l os n).2 = n + cnt s l
  | [], [], _, _ => rfl
  | x :: xs, o :: os, n, hl => by
    have hl' : xs.length = os.length := by simpa using hl
    unfold cin
    by_cases c : x = (s : Int)
    · simp only [if_pos c, cnt]; rw [cin_next s xs os (n + 1) hl']; omega
    · simp only [if_neg c, cnt]; rw [cin_next s xs os n hl']; omega
theorem cout_at (l : List Int) (d : Nat) : ∀ (s : Nat) (out : List ByteArray) (n i : Nat), s + d = 24 → 1 ≤ s → 2 * n = stp l (s - 1) → out.length = l.length → (h : i < l.length) →
    (cout l d s out n)[i]? = if (s : Int) ≤ l[i] ∧ l[i] ≤ 23 then some (bitText (numOf l l[i].toNat i) l[i].toNat) else out[i]? := by
  induction d with
  | zero =>
    intro s out n i hs _ _ _ h
    rw [if_neg (by omega)]; rfl
  | succ d ih =>
    intro s out n i hs h1 hn ho h
    have e := ih (s + 1) (cin s l out (2 * n)).1 (cin s l out (2 * n)).2 i (by omega) (by omega) (by
      rw [cin_next s l out _ ho.symm, hn, show s + 1 - 1 = (s - 1) + 1 from by omega]
      simp only [stp]; rw [show s - 1 + 1 = s from by omega]) (by rw [cin_length s l out _ ho.symm]) h
    simp only [cout]
    rw [e, cin_at s l out _ i ho.symm h, hn]
    by_cases c : l[i] = (s : Int)
    · rw [if_neg (by omega), if_pos c, if_pos (by omega), show l[i].toNat = s from by omega]; rfl
    · rw [if_neg c]
      by_cases c2 : ((s + 1 : Nat) : Int) ≤ l[i] ∧ l[i] ≤ 23
      · rw [if_pos c2, if_pos (by omega)]
      · rw [if_neg c2, if_neg (by omega)]
/-- A length, as a natural number. -/
def lenAt (l : List Int) (i : Nat) : Nat := (l.getD i 0).toNat
theorem cout_length (l : List Int) (d : Nat) : ∀ (s : Nat) (out : List ByteArray) (n : Nat), out.length = l.length → (cout l d s out n).length = l.length := by
  induction d with
  | zero => intro s out n h; exact h
  | succ d ih => intro s out n h; exact ih _ _ _ (cin_length s l out _ h.symm)
theorem codesP_length (l : List Int) : (codesP l).length = l.length := cout_length l 23 1 _ 0 (by simp)
theorem codesP_at (l : List Int) (hl : ∀ n ∈ l, 0 ≤ n ∧ n ≤ 23) (i : Nat) (h : i < l.length) :
    (codesP l)[i]'(by rw [codesP_length]; exact h) = if 1 ≤ lenAt l i then bitText (numOf l (lenAt l i) i) (lenAt l i) else ⟨#[]⟩ := by
  have e := cout_at l 23 1 (List.replicate l.length ⟨#[]⟩) 0 i (by omega) (by omega) rfl (by simp) h
  have hm := hl _ (List.getElem_mem h)
  have e2 : lenAt l i = l[i].toNat := by unfold lenAt; rw [getD_at h]
  rw [← Option.some.injEq, ← List.getElem?_eq_getElem]
  show (cout l 23 1 (List.replicate l.length ⟨#[]⟩) 0)[i]? = _
  rw [e, e2]
  by_cases c : 1 ≤ l[i]
  · rw [if_pos (by omega), if_pos (by omega)]
  · rw [if_neg (by omega), if_neg (by omega)]; simp [h]
theorem cnt_take_lt (l : List Int) (a : Nat) {i j : Nat} (hij : i < j) (h : i < l.length) (hi : l[i] = (a : Int)) : cnt a (l.take i) + 1 ≤ cnt a (l.take j) := by
  induction l generalizing i j with
  | nil => simp at h
  | cons x xs ih =>
    obtain ⟨j, rfl⟩ : ∃ j', j = j' + 1 := ⟨j - 1, by omega⟩
    cases i with
    | zero =>
      simp only [List.getElem_cons_zero] at hi
      simp [cnt, hi]
    | succ i =>
      simp only [List.getElem_cons_succ] at hi
      have := ih (i := i) (j := j) (by omega) (by simpa using h) hi
      simp only [List.take_succ_cons, cnt]; omega
theorem cnt_take_all (l : List Int) (a : Nat) {i : Nat} (h : i < l.length) (hi : l[i] = (a : Int)) : cnt a (l.take i) + 1 ≤ cnt a l := by
  have := cnt_take_lt l a (j := l.length) h h hi
  rwa [List.take_length] at this
theorem stp_grow (l : List Int) (d e : Nat) : (stp l d + cnt (d + 1) l) * 2 ^ (e + 1) ≤ stp l (d + e + 1) := by
  induction e with
  | zero => simp only [stp, Nat.add_zero, Nat.zero_add, Nat.pow_one]; omega
  | succ e ih =>
    have : stp l (d + (e + 1) + 1) = 2 * (stp l (d + e + 1) + cnt (d + (e + 1) + 1) l) := rfl
    rw [this, Nat.pow_succ, ← Nat.mul_assoc]
    omega
theorem roomTo_zero (l : List Int) : roomTo 0 l = 0 := by
  induction l with
  | nil => rfl
  | cons x xs ih => simp only [roomTo, ih]; rw [if_neg (by omega)]
theorem roomTo_succ (s : Nat) (l : List Int) : roomTo (s + 1) l = roomTo s l + cnt (s + 1) l * 2 ^ (23 - (s + 1)) := by
  induction l with
  | nil => simp [roomTo, cnt]
  | cons x xs ih =>
    simp only [roomTo, cnt, ih, Nat.add_mul]
    by_cases c : x = ((s + 1 : Nat) : Int)
    · rw [if_pos (by omega), if_neg (by omega), if_pos c, show x.toNat = s + 1 from by omega]; omega
    · by_cases c2 : 1 ≤ x ∧ x ≤ (s : Int)
      · rw [if_pos (by omega), if_pos c2, if_neg c]; omega
      · rw [if_neg (by omega), if_neg c2, if_neg c]; omega
theorem roomTo_mono (l : List Int) (s d : Nat) : roomTo s l ≤ roomTo (s + d) l := by
  induction d with
  | zero => exact Nat.le_refl _
  | succ d ih => rw [← Nat.add_assoc, roomTo_succ]; omega
theorem stp_room (l : List Int) (d : Nat) : d ≤ 22 → (stp l d + cnt (d + 1) l) * 2 ^ (22 - d) = roomTo (d + 1) l := by
  induction d with
  | zero =>
    intro _
    rw [roomTo_succ, roomTo_zero]; simp [stp]
  | succ d ih =>
    intro hd
    have e := ih (by omega)
    rw [roomTo_succ, ← e]
    simp only [stp]
    rw [show 22 - d = (22 - (d + 1)) + 1 from by omega, Nat.pow_succ, show 23 - (d + 1 + 1) = 22 - (d + 1) from by omega, Nat.add_mul]
    generalize 2 ^ (22 - (d + 1)) = P
    generalize stp l d + cnt (d + 1) l = Q
    rw [Nat.mul_comm 2 Q, Nat.mul_assoc, Nat.mul_comm 2 P]
theorem numOf_room (l : List Int) (a i : Nat) (ha : 1 ≤ a) (ha2 : a ≤ 23) (h : i < l.length) (hi : l[i] = (a : Int)) (hk : roomTo 23 l ≤ 2 ^ 23) : numOf l a i + 1 ≤ 2 ^ a := by
  have h1 := cnt_take_all l a h hi
  have h2 := stp_room l (a - 1) (by omega)
  rw [show a - 1 + 1 = a from by omega, show 22 - (a - 1) = 23 - a from by omega] at h2
  have h3 := roomTo_mono l a (23 - a)
  rw [show a + (23 - a) = 23 from by omega] at h3
  have h4 : (numOf l a i + 1) * 2 ^ (23 - a) ≤ 2 ^ a * 2 ^ (23 - a) := by
    rw [← Nat.pow_add, show a + (23 - a) = 23 from by omega]
    refine Nat.le_trans (Nat.mul_le_mul_right _ (show numOf l a i + 1 ≤ stp l (a - 1) + cnt a l by unfold numOf; omega)) ?_
    omega
  exact Nat.le_of_mul_le_mul_right h4 (Nat.two_pow_pos _)
theorem numOf_order (l : List Int) {a b i j : Nat} (ha : 1 ≤ a) (h : i < l.length) (hi : l[i] = (a : Int)) (hab : a < b ∨ a = b ∧ i < j) : (numOf l a i + 1) * 2 ^ (b - a) ≤ numOf l b j := by
  rcases hab with hab | ⟨rfl, hij⟩
  · have h1 := cnt_take_all l a h hi
    have h2 := stp_grow l (a - 1) (b - a - 1)
    rw [show a - 1 + 1 = a from by omega, show b - a - 1 + 1 = b - a from by omega, show a - 1 + (b - a - 1) + 1 = b - 1 from by omega] at h2
    refine Nat.le_trans (Nat.mul_le_mul_right _ (show numOf l a i + 1 ≤ stp l (a - 1) + cnt a l by unfold numOf; omega)) ?_
    unfold numOf; omega
  · have h1 := cnt_take_lt l a hij h hi
    rw [Nat.sub_self]; unfold numOf; omega
/-- The bytes of a number in so many bits, as bytes. -/
def bitBytes (n s : Nat) : List UInt8 := (List.range s).map fun i => UInt8.ofNat (48 + n / 2 ^ (s - 1 - i) % 2)
theorem bitText_data (n s : Nat) : (bitText n s).data.toList = bitBytes n s := by
  unfold bitText bitBytes bitNums
  rw [strOfNums_data, List.map_map]
  refine List.map_congr_left fun i _ => ?_
  simp only [Function.comp, bitNum]; rw [Int.toNat_natCast]
theorem bitText_size (n s : Nat) : (bitText n s).size = s := by unfold bitText; rw [strOfNums_size, bitNums_length]
theorem bitBytes_at (n s i : Nat) (h : i < s) : (bitBytes n s)[i]? = some (UInt8.ofNat (48 + n / 2 ^ (s - 1 - i) % 2)) := by simp [bitBytes, h]
theorem bit_inj {x y : Nat} (hx : x < 2) (hy : y < 2) (h : UInt8.ofNat (48 + x) = UInt8.ofNat (48 + y)) : x = y := by
  have e := congrArg UInt8.toNat h
  simp only [UInt8.toNat_ofNat'] at e
  omega
theorem same_bits {n m a : Nat} (hn : n < 2 ^ a) (hm : m < 2 ^ a) (h : ∀ i, i < a → n / 2 ^ i % 2 = m / 2 ^ i % 2) : n = m := by
  refine Nat.eq_of_testBit_eq fun i => ?_
  by_cases c : i < a
  · rw [Nat.testBit_eq_decide_div_mod_eq, Nat.testBit_eq_decide_div_mod_eq, h i c]
  · have e : 2 ^ a ≤ 2 ^ i := Nat.pow_le_pow_right (by decide) (by omega)
    rw [Nat.testBit_lt_two_pow (by omega), Nat.testBit_lt_two_pow (by omega)]
theorem prefix_bits {n m a b : Nat} (hab : a ≤ b) (hn : n < 2 ^ a) (hm : m < 2 ^ b) (h : (bitBytes m b).take a = bitBytes n a) : m / 2 ^ (b - a) = n := by
  refine same_bits (a := a) (Nat.div_lt_of_lt_mul (by rw [← Nat.pow_add, show b - a + a = b from by omega]; exact hm)) hn fun i hi => ?_
  have e := congrArg (fun l => l[a - 1 - i]?) h
  simp only [List.getElem?_take] at e
  rw [if_pos (by omega), bitBytes_at _ _ _ (by omega), bitBytes_at _ _ _ (by omega)] at e
  have e2 := bit_inj (Nat.mod_lt _ (by decide)) (Nat.mod_lt _ (by decide)) (Option.some.inj e)
  rw [show a - 1 - (a - 1 - i) = i from by omega, show b - 1 - (a - 1 - i) = (b - a) + i from by omega, Nat.pow_add, ← Nat.div_div_eq_div_mul] at e2
  exact e2
theorem bitBytes_cons (n s : Nat) : bitBytes n (s + 1) = UInt8.ofNat (48 + n / 2 ^ s % 2) :: bitBytes n s := by
  unfold bitBytes
  rw [List.range_succ_eq_map, List.map_cons, List.map_map]
  refine List.cons_eq_cons.2 ⟨by simp, List.map_congr_left fun i _ => ?_⟩
  simp only [Function.comp]
  rw [show s + 1 - 1 - (i + 1) = s - 1 - i from by omega]
theorem less_bits (s : Nat) : ∀ (n m : Nat), n % 2 ^ s < m % 2 ^ s → Op.bytesLess (bitBytes n s) (bitBytes m s) = true := by
  induction s with
  | zero => intro n m h; simp [Nat.mod_one] at h
  | succ s ih =>
    intro n m h
    rw [bitBytes_cons, bitBytes_cons]
    rw [Nat.pow_succ, Nat.mod_mul, Nat.mod_mul] at h
    have hn := Nat.mod_lt (n / 2 ^ s) (show 0 < 2 by decide)
    have hm := Nat.mod_lt (m / 2 ^ s) (show 0 < 2 by decide)
    have hn2 := Nat.mod_lt n (Nat.two_pow_pos s)
    have hm2 := Nat.mod_lt m (Nat.two_pow_pos s)
    generalize n / 2 ^ s % 2 = x at *
    generalize m / 2 ^ s % 2 = y at *
    simp only [Op.bytesLess, Bool.or_eq_true, Bool.and_eq_true, decide_eq_true_eq, beq_iff_eq]
    obtain rfl | rfl : x = 0 ∨ x = 1 := by omega
    · obtain rfl | rfl : y = 0 ∨ y = 1 := by omega
      · exact .inr ⟨rfl, ih n m (by omega)⟩
      · exact .inl (by decide)
    · obtain rfl | rfl : y = 0 ∨ y = 1 := by omega
      · exfalso; omega
      · exact .inr ⟨rfl, ih n m (by omega)⟩

--IMPORT Derived.Lib.RabinKarpLaws
/-- Bytes. -/
def Byt (l : List Int) : Prop := ∀ x ∈ l, 0 ≤ x ∧ x ≤ 255
theorem byt_of {l : List Int} (h : ∀ x ∈ l, (Lit.int .u8 x).wf = true) : Byt l := by
  intro x hx
  have := h x hx
  simp only [Lit.wf, IntKind.min, IntKind.max, IntKind.signed, IntKind.bits, Bool.and_eq_true, decide_eq_true_eq] at this
  simp at this; omega
theorem byt_rd {l : List Int} (hl : Byt l) (j : Nat) (hj : j < l.length) : 0 ≤ rd l (j : Int) ∧ rd l (j : Int) ≤ 255 := by
  rw [rdj, getD_at hj]; exact hl _ (List.getElem_mem hj)
theorem and255 (x : Int) : 0 ≤ Go.bits .and .u64 x 255 ∧ Go.bits .and .u64 x 255 ≤ 255 := by
  have e : ∀ z : Nat, z ≤ 255 → IntKind.u64.wrap (z : Int) = (z : Int) := by
    intro z hz; simp only [IntKind.wrap, IntKind.bits, IntKind.signed]; simp; omega
  have hz : ∀ y : Nat, y &&& 255 ≤ 255 := fun y => Nat.and_le_right
  have : ∃ z : Nat, z ≤ 255 ∧ Go.bits .and .u64 x 255 = (z : Int) := by
    refine ⟨_, hz (x % 18446744073709551616).toNat, ?_⟩
    rw [← e _ (hz _)]
    simp only [Go.bits, IntKind.bits]
    rfl
  obtain ⟨z, h1, h2⟩ := this
  rw [h2]; omega
theorem next_ok {l : List Int} (hl : Byt l) (a s : Int) (h0 : 0 ≤ a) (h1 : a ≤ 4611686018427387904) :
    ∃ r s', spec_l1Cur_next.f l a s = some (r, a + 1, s') ∧ 0 ≤ r ∧ r ≤ 255 := by
  unfold spec_l1Cur_next.f
  have e1 : wrap64 (a + 1) = a + 1 := w64 (by omega) (by omega)
  by_cases c : a < (l.length : Int)
  · have hb := byt_rd hl a.toNat (by omega)
    rw [show ((a.toNat : Nat) : Int) = a from by omega] at hb
    rw [if_pos c, if_pos h0, e1, if_pos (by omega), w64 (x := rd l a) (by omega) (by omega)]
    exact ⟨_, _, rfl, hb.1, hb.2⟩
  · rw [if_neg c, e1, if_neg (by omega)]
    refine ⟨_, _, rfl, ?_⟩
    have hb := and255 (IntKind.u64.wrap (IntKind.u64.wrap (IntKind.u64.wrap (s * 6364136223846793005)) + 1442695040888963407) / 1099511627776)
    rw [w64 (by omega) (by omega)]
    exact hb
theorem pick_ok {l : List Int} (hl : Byt l) (a s n : Int) (h0 : 0 ≤ a) (h1 : a ≤ 4611686018427387900) :
    ∃ r a' s', spec_l1Cur_pick.f l a s n = some (r, a', s') ∧ 0 ≤ r ∧ (r < n ∨ n ≤ 1 ∧ r = 0) ∧ a ≤ a' ∧ a' ≤ a + 2 := by
  unfold spec_l1Cur_pick.f
  by_cases c : n ≤ 1
  · rw [if_pos c]; exact ⟨_, _, _, rfl, by omega, .inr ⟨c, rfl⟩, by omega, by omega⟩
  · obtain ⟨r, s1, e1, g0, g1⟩ := next_ok hl a s h0 (by omega)
    rw [if_neg c, e1]
    simp only [Option.bind_some]
    by_cases c2 : n > 200
    · obtain ⟨r2, s2, e2, k0, k1⟩ := next_ok hl (a + 1) s1 (by omega) (by omega)
      rw [if_pos c2, e2]
      simp only [Option.bind_some]
      rw [if_neg (by omega), w64 (x := r * 256) (by omega) (by omega), w64 (by omega) (by omega)]
      exact ⟨_, _, _, rfl, Int.tmod_nonneg _ (by omega), .inl (Int.tmod_lt_of_pos _ (by omega)), by omega, by omega⟩
    · rw [if_neg c2, if_neg (by omega)]
      exact ⟨_, _, _, rfl, Int.tmod_nonneg _ (by omega), .inl (Int.tmod_lt_of_pos _ (by omega)), by omega, by omega⟩
theorem one_ok {l : List Int} (hl : Byt l) (a s n : Int) (h0 : 0 ≤ a) (h1 : a ≤ 4611686018427387900) :
    ∃ b a' s', spec_l1Cur_one.f l a s n = some (b, a', s') ∧ a ≤ a' ∧ a' ≤ a + 2 := by
  unfold spec_l1Cur_one.f
  obtain ⟨r, a', s', e, _, _, g⟩ := pick_ok hl a s n h0 h1
  rw [e]; exact ⟨_, _, _, rfl, g⟩
theorem among_ok {l : List Int} (hl : Byt l) (a s : Int) (x : List Int) (hx : 1 < x.length) (h0 : 0 ≤ a) (h1 : a ≤ 4611686018427387900) :
    ∃ r a' s', spec_l1Cur_among.f l a s x = some (r, a', s') ∧ r ∈ x ∧ a ≤ a' ∧ a' ≤ a + 2 := by
  unfold spec_l1Cur_among.f
  obtain ⟨r, a', s', e, g0, g1, g⟩ := pick_ok hl a s (x.length : Int) h0 h1
  have hr : r.toNat < x.length := by omega
  rw [e]
  simp only [Option.bind_some]
  rw [if_pos g0, if_pos (by omega)]
  refine ⟨_, _, _, rfl, ?_, g⟩
  rw [show r = ((r.toNat : Nat) : Int) from by omega, rdj, getD_at hr]
  exact List.getElem_mem hr

theorem weights_l {l : List Int} (hl : Byt l) (d : Nat) : ∀ (x : List Int) (p q : Int) (f : Bool) (a s : Int), x.length + d ≤ 200 → 0 ≤ a → a ≤ 1000 + 4 * x.length →
    ∃ r a' s', Ev (fun k => spec_l1Cur_weights.l0 k x (d : Int) p q f l a s) (r, a', s') ∧ r.length ≤ 200 ∧ 0 ≤ a' ∧ a' ≤ 2000 := by
  induction d with
  | zero =>
    intro x p q f a s hx h0 h1
    by_cases c : (x.length : Int) > 0
    · obtain ⟨b, a1, s1, e, u1, v1⟩ := one_ok hl a s 30 h0 (by omega)
      by_cases cb : b = true
      · obtain ⟨r2, a2, s2, e2, _, u2, v2⟩ := among_ok hl a1 s1 [0, 100000, 100001] (by simp) (by omega) (by omega)
        refine ⟨x.set 0 r2, a2, s2, Ev.step (f := fun _ => some (x.set 0 r2, a2, s2)) (fun k => ?_) (Ev.now _), by simp; omega, by omega, by omega⟩
        simp only [spec_l1Cur_weights.l0]
        rw [if_neg (by omega), if_pos c, e]
        simp only [Option.bind_some]
        rw [if_pos cb, e2]
        simp only [Option.bind_some]
        rw [if_pos (by omega)]; rfl
      · refine ⟨x, a1, s1, Ev.step (f := fun _ => some (x, a1, s1)) (fun k => ?_) (Ev.now _), by omega, by omega, by omega⟩
        simp only [spec_l1Cur_weights.l0]
        rw [if_neg (by omega), if_pos c, e]
        simp only [Option.bind_some]
        rw [if_neg cb]
    · refine ⟨x, a, s, Ev.step (f := fun _ => some (x, a, s)) (fun k => ?_) (Ev.now _), by omega, by omega, by omega⟩
      simp only [spec_l1Cur_weights.l0]
      rw [if_neg (by omega), if_neg c]
  | succ d ih =>
    intro x p q f a s hx h0 h1
    have ew : wrap64 (((d + 1 : Nat) : Int) - 1) = (d : Int) := by rw [w64 (by omega) (by omega)]; omega
    have el : ∀ y : Int, ((x ++ [y]).length : Int) = x.length + 1 := fun y => by simp
    by_cases cf : f = true
    · obtain ⟨r, a', s', g, g2⟩ := ih (x ++ [p]) q (wrap64 (p + q)) f a s (by simp; omega) h0 (by rw [el]; omega)
      refine ⟨r, a', s', Ev.step (fun k => ?_) g, g2⟩
      simp only [spec_l1Cur_weights.l0]
      rw [if_pos (by omega), if_pos cf, if_pos (by omega), ew]
    · obtain ⟨r1, a1, s1, e1, _, _, u1, v1⟩ := pick_ok hl a s 20 h0 (by omega)
      obtain ⟨r, a', s', g, g2⟩ := ih (x ++ [wrap64 (1 + r1)]) p q f a1 s1 (by simp; omega) (by omega) (by rw [el]; omega)
      refine ⟨r, a', s', Ev.step (fun k => ?_) g, g2⟩
      simp only [spec_l1Cur_weights.l0]
      rw [if_pos (by omega), if_neg cf, e1]
      simp only [Option.bind_some]
      rw [if_pos (by omega), ew]
theorem weights_ok {l : List Int} (hl : Byt l) (a s : Int) (h0 : 0 ≤ a) (h1 : a ≤ 900) : ∃ r a' s', Ev (fun k => spec_l1Cur_weights.f k l a s) (r, a', s') ∧ r.length ≤ 200 ∧ 0 ≤ a' ∧ a' ≤ 2000 := by
  unfold spec_l1Cur_weights.f
  obtain ⟨r1, a1, s1, e1, p1, q1, u1, v1⟩ := pick_ok hl a s 8 (by omega) (by omega)
  obtain ⟨b, a2, s2, e2, u2, v2⟩ := one_ok hl a1 s1 20 (by omega) (by omega)
  simp only [e1, e2, Option.bind_some]
  have go : ∀ (n : Nat) (a s : Int), n ≤ 200 → 0 ≤ a → a ≤ 990 → ∃ r a' s', Ev (fun k => spec_l1Cur_weights.j0 k [] (n : Int) l a s) (r, a', s') ∧ r.length ≤ 200 ∧ 0 ≤ a' ∧ a' ≤ 2000 := by
    intro n a s hn h0 h1
    obtain ⟨b, a1, s1, e1, u1, v1⟩ := one_ok hl a s 8 (by omega) (by omega)
    obtain ⟨r, a', s', g, g2⟩ := weights_l hl n [] 1 1 b a1 s1 (by simpa using hn) (by omega) (by simp; omega)
    refine ⟨r, a', s', Ev.step (fun k => ?_) g, g2⟩
    simp only [spec_l1Cur_weights.j0, e1, Option.bind_some]
  by_cases cb : b = true
  · obtain ⟨r3, a3, s3, e3, h3, u3, v3⟩ := among_ok hl a2 s2 [1, 24, 25] (by simp) (by omega) (by omega)
    simp at h3
    obtain ⟨r, a', s', g, g2⟩ := go r3.toNat a3 s3 (by omega) (by omega) (by omega)
    refine ⟨r, a', s', Ev.congr (fun k => ?_) g, g2⟩
    rw [if_pos cb, e3]
    simp only [Option.bind_some]
    rw [show ((r3.toNat : Nat) : Int) = r3 from by omega]
  · obtain ⟨r, a', s', g, g2⟩ := go (2 + r1).toNat a2 s2 (by omega) (by omega) (by omega)
    refine ⟨r, a', s', Ev.congr (fun k => ?_) g, g2⟩
    rw [if_neg cb, w64 (by omega) (by omega), show (((2 + r1).toNat : Nat) : Int) = 2 + r1 from by omega]
theorem l15Weights_l (l : List Int) (hn : l.length ≤ 1048576) (d : Nat) : ∀ (j : Nat), j + d = l.length → ∃ b, Ev (fun k => spec_l15Weights.l0 k l l (l.length : Int) (j : Int)) b ∧ (b = true → 2 ≤ l.length ∧ l.length ≤ 24) := by
  induction d with
  | zero =>
    intro j hj
    refine ⟨decide (2 ≤ (l.length : Int) ∧ (l.length : Int) ≤ 24), Ev.step (f := fun _ => some (decide (2 ≤ (l.length : Int) ∧ (l.length : Int) ≤ 24))) (fun k => ?_) (Ev.now _), fun h => by have := of_decide_eq_true h; omega⟩
    simp only [spec_l15Weights.l0]
    rw [if_neg (by omega), l1In_eq]; rfl
  | succ d ih =>
    intro j hj
    obtain ⟨b, g, g2⟩ := ih (j + 1) (by omega)
    by_cases c : 1 ≤ rd l (j : Int) ∧ rd l (j : Int) ≤ 100000
    · refine ⟨b, Ev.step (fun k => ?_) g, g2⟩
      simp only [spec_l15Weights.l0]
      rw [if_pos (by omega), if_pos (by omega), if_pos (by omega), l1In_eq, decide_eq_true c]
      simp only [Option.bind_some, if_true]
      rw [wj (n := l.length) (by omega) (by omega)]
    · refine ⟨false, Ev.step (f := fun _ => some false) (fun k => ?_) (Ev.now _), fun h => by cases h⟩
      simp only [spec_l15Weights.l0]
      rw [if_pos (by omega), if_pos (by omega), if_pos (by omega), l1In_eq, decide_eq_false c]
      simp
/-- Heaps whose symbols are below n, and not too many. -/
def HeapsOk (n B : Nat) (hs : List S97) : Prop := ∀ h ∈ hs, h.f1.length ≤ B ∧ ∀ i ∈ h.f1, 0 ≤ i ∧ i < (n : Int)
theorem rdT_at (xs : List S97) {j : Nat} (h : j < xs.length) : rd_T97 xs (j : Int) = xs[j] := by
  show xs.getD j _ = _
  exact getD_at h _
abbrev LR (n : Nat) (g : Nat → Option (List Int × Bool)) : Prop := ∃ r, Ev g r ∧ r.1.length = n
theorem best_l (n : Nat) (out : List Int) (hs : List S97) (hn : hs.length ≤ 100) (h0 : 1 ≤ hs.length) (x9 x : Int) (ps : List Int) (hB : HeapsOk n 1000000000 hs) (hp : ps.length ≤ 1000000000)
    (H : ∀ b, (hb : b < hs.length) → ∀ y : Int, LR n (fun k => spec_LengthsOf.l2 k out (hs.take b ++ hs.drop (b + 1)) (wrap64 (x9 + 1)) y (ps ++ hs[b].f1))) (d : Nat) :
    ∀ (j b : Nat), j + d = hs.length → b < hs.length → LR n (fun k => spec_LengthsOf.l3 k out hs x9 (b : Int) hs (hs.length : Int) (j : Int) x ps) := by
  induction d with
  | zero =>
    intro j b hj hb
    obtain ⟨r, g, g2⟩ := H b hb (wrap64 (x + hs[b].f0))
    have hm := hB _ (List.getElem_mem hb)
    refine ⟨r, Ev.step (fun k => ?_) g, g2⟩
    simp only [spec_LengthsOf.l3, Option.bind_some, rdT_at hs hb, List.nil_append, List.length_nil, List.length_take, List.length_drop, List.length_append, Int.toNat_natCast, wj hb (show hs.length ≤ 4611686018427387904 by omega)]
    rw [if_neg (by omega), if_pos (by omega), if_pos (by omega), if_pos (by omega), if_pos (by omega), if_pos (by omega), if_pos (by omega), if_pos (by omega), if_pos (by omega)]
  | succ d ih =>
    intro j b hj hb
    have hj2 : j < hs.length := by omega
    by_cases c : hs[j].f0 < hs[b].f0
    · obtain ⟨r, g, g2⟩ := ih (j + 1) j (by omega) hj2
      refine ⟨r, Ev.step (fun k => ?_) g, g2⟩
      simp only [spec_LengthsOf.l3]
      rw [if_pos (by omega), if_pos (by omega), if_pos (by omega), if_pos (by omega), if_pos (by omega), rdT_at hs hj2, rdT_at hs hb, if_pos c, wj hj2 (by omega)]
    · obtain ⟨r, g, g2⟩ := ih (j + 1) b (by omega) hb
      refine ⟨r, Ev.step (fun k => ?_) g, g2⟩
      simp only [spec_LengthsOf.l3]
      rw [if_pos (by omega), if_pos (by omega), if_pos (by omega), if_pos (by omega), if_pos (by omega), rdT_at hs hj2, rdT_at hs hb, if_neg c, wj hj2 (by omega)]
theorem add_l (n : Nat) (hs : List S97) (hn : hs.length ≤ 100) (x : Int) (ps : List Int) (hp : ps.length ≤ 1000000000) (hps : ∀ i ∈ ps, 0 ≤ i ∧ i < (n : Int))
    (H : ∀ out : List Int, out.length = n → LR n (fun k => spec_LengthsOf.l1 k out (hs ++ [⟨x, ps⟩]))) (d : Nat) :
    ∀ (j : Nat) (out : List Int), j + d = ps.length → out.length = n → LR n (fun k => spec_LengthsOf.l4 k out hs ps (ps.length : Int) (j : Int) x ps) := by
  induction d with
  | zero =>
    intro j out hj ho
    obtain ⟨r, g, g2⟩ := H out ho
    refine ⟨r, Ev.step (fun k => ?_) g, g2⟩
    simp only [spec_LengthsOf.l4]
    rw [if_neg (by omega), if_pos (by omega)]
  | succ d ih =>
    intro j out hj ho
    have hj2 : j < ps.length := by omega
    have hm := hps _ (List.getElem_mem hj2)
    obtain ⟨r, g, g2⟩ := ih (j + 1) (out.set (ps[j]).toNat (wrap64 (rd out ps[j] + 1))) (by omega) (by simpa using ho)
    refine ⟨r, Ev.step (fun k => ?_) g, g2⟩
    simp only [spec_LengthsOf.l4]
    rw [if_pos (by omega), if_pos (by omega), if_pos (by omega), rdj, getD_at hj2, if_pos hm.1, if_pos (by omega), wj hj2 (by omega)]
theorem HeapsOk.cut {n B : Nat} {hs : List S97} (h : HeapsOk n B hs) (b : Nat) : HeapsOk n B (hs.take b ++ hs.drop (b + 1)) := by
  intro x hx
  rcases List.mem_append.1 hx with hx | hx
  · exact h x (List.mem_of_mem_take hx)
  · exact h x (List.mem_of_mem_drop hx)
theorem merge_l (n : Nat) (c : Nat) : ∀ (B : Nat) (hs : List S97) (out : List Int), hs.length = c → c ≤ 24 → B * 2 ^ c ≤ 1000000000 → HeapsOk n B hs → out.length = n → LR n (fun k => spec_LengthsOf.l1 k out hs) := by
  induction c with
  | zero =>
    intro B hs out hc _ _ _ ho
    refine ⟨(out, true), Ev.step (f := fun _ => some (out, true)) (fun k => ?_) (Ev.now _), ho⟩
    simp only [spec_LengthsOf.l1]
    rw [if_neg (by omega)]
  | succ c ih =>
    intro B hs out hc hc24 hB hh ho
    by_cases c1 : c = 0
    · refine ⟨(out, true), Ev.step (f := fun _ => some (out, true)) (fun k => ?_) (Ev.now _), ho⟩
      simp only [spec_LengthsOf.l1]
      rw [if_neg (by omega)]
    have hP : 1 ≤ 2 ^ c := Nat.one_le_two_pow
    have hB2 : 2 * B ≤ 2 * B * 2 ^ c := Nat.le_mul_of_pos_right _ hP
    have hB3 : 2 * B * 2 ^ c = B * 2 ^ (c + 1) := by rw [Nat.pow_succ, Nat.mul_comm 2 B, Nat.mul_assoc, Nat.mul_comm 2]
    have hBig : ∀ {hs : List S97}, HeapsOk n B hs → HeapsOk n 1000000000 hs := fun h x hx => ⟨Nat.le_trans (h x hx).1 (by omega), (h x hx).2⟩
    have second : ∀ b, (hb : b < hs.length) → ∀ y : Int, LR n (fun k => spec_LengthsOf.l2 k out (hs.take b ++ hs.drop (b + 1)) (wrap64 (0 + 1)) y ([] ++ hs[b].f1)) := by
      intro b hb y
      have hm := hh _ (List.getElem_mem hb)
      generalize hq : hs.take b ++ hs.drop (b + 1) = hs2
      have hl2 : hs2.length = c := by rw [← hq]; simp; omega
      have hh2 : HeapsOk n B hs2 := by rw [← hq]; exact hh.cut b
      have third : ∀ b2, (hb2 : b2 < hs2.length) → ∀ y2 : Int, LR n (fun k => spec_LengthsOf.l2 k out (hs2.take b2 ++ hs2.drop (b2 + 1)) (wrap64 (1 + 1)) y2 (([] ++ hs[b].f1) ++ hs2[b2].f1)) := by
        intro b2 hb2 y2
        have hm2 := hh2 _ (List.getElem_mem hb2)
        have hl3 : (hs2.take b2 ++ hs2.drop (b2 + 1)).length = c - 1 := by simp; omega
        have hh3 : HeapsOk n (2 * B) (hs2.take b2 ++ hs2.drop (b2 + 1)) := fun x hx => ⟨Nat.le_trans ((hh2.cut b2) x hx).1 (by omega), ((hh2.cut b2) x hx).2⟩
        generalize hs2.take b2 ++ hs2.drop (b2 + 1) = hs3 at hl3 hh3 ⊢
        have hps : ∀ i ∈ ([] ++ hs[b].f1) ++ hs2[b2].f1, 0 ≤ i ∧ i < (n : Int) := by
          intro i hi
          rw [List.nil_append] at hi
          rcases List.mem_append.1 hi with hi | hi
          · exact hm.2 i hi
          · exact hm2.2 i hi
        have hpl : (([] ++ hs[b].f1) ++ hs2[b2].f1).length ≤ 2 * B := by simp; omega
        generalize ([] ++ hs[b].f1) ++ hs2[b2].f1 = ps at hps hpl ⊢
        obtain ⟨r, g, g2⟩ := add_l n hs3 (by omega) y2 ps (by omega) hps (fun out' ho' => by
          refine ih (2 * B) (hs3 ++ [⟨y2, ps⟩]) out' (by simp; omega) (by omega) (by omega) ?_ ho'
          intro x hx
          rcases List.mem_append.1 hx with hx | hx
          · exact hh3 x hx
          · rw [List.mem_singleton.1 hx]; exact ⟨hpl, hps⟩) ps.length 0 out (by omega) ho
        refine ⟨r, Ev.step (fun k => ?_) g, g2⟩
        simp only [spec_LengthsOf.l2]
        rw [if_neg (by rw [w64 (by omega) (by omega)]; omega)]; rfl
      obtain ⟨r, g, g2⟩ := best_l n out hs2 (by omega) (by omega) 1 y ([] ++ hs[b].f1) (hBig hh2) (by simp; omega) third hs2.length 0 0 (by omega) (by omega)
      refine ⟨r, Ev.step (fun k => ?_) g, g2⟩
      have e01 : wrap64 (0 + 1) = 1 := by rw [w64 (by omega) (by omega)]; rfl
      simp only [spec_LengthsOf.l2, e01]
      rw [if_pos (by omega)]; rfl
    obtain ⟨r, g, g2⟩ := best_l n out hs (by omega) (by omega) 0 0 [] (hBig hh) (by simp) second hs.length 0 0 (by omega) (by omega)
    refine ⟨r, Ev.step (f := fun k => spec_LengthsOf.l2 k out hs 0 0 []) (fun k => ?_) (Ev.step (fun k => ?_) g), g2⟩
    · simp only [spec_LengthsOf.l1]
      rw [if_pos (by omega)]
    · simp only [spec_LengthsOf.l2]
      rw [if_pos (by omega)]; rfl
theorem heaps_l (w out : List Int) (n : Nat) (hw : w.length = n) (hn : n ≤ 24) (ho : out.length = n) (d : Nat) : ∀ (j : Nat) (hs : List S97), j + d = n → hs.length = j → HeapsOk n 1 hs →
    LR n (fun k => spec_LengthsOf.l0 k out hs w (w.length : Int) (j : Int)) := by
  induction d with
  | zero =>
    intro j hs hj hl hh
    have hp : 2 ^ n ≤ 2 ^ 24 := Nat.pow_le_pow_right (by decide) hn
    obtain ⟨r, g, g2⟩ := merge_l n n 1 hs out (by omega) hn (by omega) hh ho
    refine ⟨r, Ev.step (fun k => ?_) g, g2⟩
    simp only [spec_LengthsOf.l0]
    rw [if_neg (by omega)]
  | succ d ih =>
    intro j hs hj hl hh
    obtain ⟨r, g, g2⟩ := ih (j + 1) (hs ++ [⟨rd w (j : Int), [(j : Int)]⟩]) (by omega) (by simp [hl]) (by
      intro x hx
      rcases List.mem_append.1 hx with hx | hx
      · exact hh x hx
      · rw [List.mem_singleton.1 hx]
        refine ⟨by simp, fun i hi => ?_⟩
        rw [List.mem_singleton.1 hi]; omega)
    refine ⟨r, Ev.step (fun k => ?_) g, g2⟩
    simp only [spec_LengthsOf.l0]
    rw [if_pos (by omega), if_pos (by omega), if_pos (by omega), if_pos (by omega), wj (n := n) (by omega) (by omega)]
theorem lengthsOf_ok (w : List Int) (hw : w.length ≤ 1048576) : ∃ r, Ev (fun k => spec_LengthsOf.f k w) r ∧ r.1.length ≤ 200 ∧ (r.2 = true → r.1.length = w.length) := by
  unfold spec_LengthsOf.f
  obtain ⟨b, g, g2⟩ := l15Weights_l w hw w.length 0 (by omega)
  cases b with
  | false => exact ⟨([], false), Ev.bind (g := fun k => spec_l15Weights.f k w) g (Ev.congr (fun k => by simp) (Ev.now _)), by simp, by simp⟩
  | true =>
    have h2 := g2 rfl
    obtain ⟨r, e, e2⟩ := heaps_l w (List.replicate w.length 0) w.length rfl (by omega) (by simp) w.length 0 [] (by omega) rfl (fun x hx => absurd hx (by simp))
    refine ⟨r, Ev.bind (g := fun k => spec_l15Weights.f k w) g (Ev.congr (fun k => ?_) e), by omega, fun _ => e2⟩
    rw [if_pos rfl, if_pos (by omega), Int.toNat_natCast, if_pos (by omega)]; rfl
theorem lengths_l {l : List Int} (hl : Byt l) (d : Nat) : ∀ (x : List Int) (a s : Int), 1 ≤ x.length + d → x.length + d ≤ 200 → 0 ≤ a → a ≤ 3000 + 4 * x.length →
    ∃ r a' s', Ev (fun k => spec_l1Cur_lengths.l0 k x (d : Int) l a s) (r, a', s') ∧ 1 ≤ r.length ∧ r.length ≤ 200 ∧ 0 ≤ a' ∧ a' ≤ 4000 := by
  induction d with
  | zero =>
    intro x a s h1 hx h0 ha
    obtain ⟨b, a1, s1, e, u1, v1⟩ := one_ok hl a s 12 h0 (by omega)
    by_cases cb : b = true
    · obtain ⟨r2, a2, s2, e2, _, u2, v2⟩ := among_ok hl a1 s1 [-1, 23, 24] (by simp) (by omega) (by omega)
      refine ⟨x.set 0 r2, a2, s2, Ev.step (f := fun _ => some (x.set 0 r2, a2, s2)) (fun k => ?_) (Ev.now _), by simp; omega, by simp; omega, by omega, by omega⟩
      simp only [spec_l1Cur_lengths.l0]
      rw [if_neg (by omega), e]
      simp only [Option.bind_some]
      rw [if_pos cb, e2]
      simp only [Option.bind_some]
      rw [if_pos (by omega)]; rfl
    · refine ⟨x, a1, s1, Ev.step (f := fun _ => some (x, a1, s1)) (fun k => ?_) (Ev.now _), by omega, by omega, by omega, by omega⟩
      simp only [spec_l1Cur_lengths.l0]
      rw [if_neg (by omega), e]
      simp only [Option.bind_some]
      rw [if_neg cb]
  | succ d ih =>
    intro x a s h1 hx h0 ha
    have ew : wrap64 (((d + 1 : Nat) : Int) - 1) = (d : Int) := by rw [w64 (by omega) (by omega)]; omega
    obtain ⟨r1, a1, s1, e1, _, _, u1, v1⟩ := pick_ok hl a s 6 h0 (by omega)
    obtain ⟨r, a', s', g, g2⟩ := ih (x ++ [r1]) a1 s1 (by simp; omega) (by simp; omega) (by omega) (by simp; omega)
    refine ⟨r, a', s', Ev.step (fun k => ?_) g, g2⟩
    simp only [spec_l1Cur_lengths.l0]
    rw [if_pos (by omega), e1]
    simp only [Option.bind_some]
    rw [if_pos (by omega), ew]
theorem lengths_ok {l : List Int} (hl : Byt l) (a s : Int) (h0 : 0 ≤ a) (h1 : a ≤ 800) : ∃ r a' s', Ev (fun k => spec_l1Cur_lengths.f k l a s) (r, a', s') ∧ r.length ≤ 200 ∧ 0 ≤ a' ∧ a' ≤ 4000 := by
  unfold spec_l1Cur_lengths.f
  obtain ⟨b, a1, s1, e1, u1, v1⟩ := one_ok hl a s 4 (by omega) (by omega)
  simp only [e1, Option.bind_some]
  have go : ∀ (a s : Int), 0 ≤ a → a ≤ 2900 → ∃ r a' s', Ev (fun k => spec_l1Cur_lengths.j0 k l a s) (r, a', s') ∧ r.length ≤ 200 ∧ 0 ≤ a' ∧ a' ≤ 4000 := by
    intro a s h0 h1
    obtain ⟨r1, a1, s1, e1, p1, q1, u1, v1⟩ := pick_ok hl a s 7 (by omega) (by omega)
    obtain ⟨r, a', s', g, _, g2⟩ := lengths_l hl (1 + r1).toNat [] a1 s1 (by simp; omega) (by simp; omega) (by omega) (by simp; omega)
    refine ⟨r, a', s', Ev.step (fun k => ?_) g, g2⟩
    simp only [spec_l1Cur_lengths.j0, e1, Option.bind_some]
    rw [w64 (by omega) (by omega), show (((1 + r1).toNat : Nat) : Int) = 1 + r1 from by omega]
  by_cases cb : b = true
  · obtain ⟨r, a', s', g, g2⟩ := go a1 s1 (by omega) (by omega)
    exact ⟨r, a', s', Ev.congr (fun k => by rw [if_pos cb]) g, g2⟩
  · obtain ⟨w, a2, s2, g2, k0, k1, k2⟩ := weights_ok hl a1 s1 (by omega) (by omega)
    obtain ⟨q, g3, k3, _⟩ := lengthsOf_ok w (by omega)
    by_cases c : q.2 = true
    · refine ⟨q.1, a2, s2, ?_, k3, by omega, by omega⟩
      simp only [if_neg cb]
      refine Ev.bind g2 (Ev.bind g3 ?_)
      simp only [if_pos c]
      exact Ev.now _
    · obtain ⟨r, a', s', g, g4⟩ := go a2 s2 (by omega) (by omega)
      refine ⟨r, a', s', ?_, g4⟩
      simp only [if_neg cb]
      refine Ev.bind g2 (Ev.bind g3 ?_)
      simp only [if_neg c]
      exact g
theorem drawKraft_ok {l : List Int} (hl : Byt l) : ∃ r, Ev (fun k => spec_DrawKraftOf.f k l) r ∧ r.length ≤ 200 := by
  unfold spec_DrawKraftOf.f
  obtain ⟨r, a', s', g, g2, _⟩ := lengths_ok hl 0 0 (by omega) (by omega)
  exact ⟨r, Ev.bind g (Ev.now _), g2⟩
theorem drawCodes_ok {l : List Int} (hl : Byt l) : ∃ r, Ev (fun k => spec_DrawCodesOf.f k l) r ∧ r.length ≤ 200 := by
  unfold spec_DrawCodesOf.f
  obtain ⟨r, g, g2⟩ := drawKraft_ok hl
  exact ⟨r, Ev.bind g (Ev.now _), g2⟩

theorem roomTo_le (s : Nat) (l : List Int) : roomTo s l ≤ l.length * 2 ^ 23 := by
  induction l with
  | nil => simp [roomTo]
  | cons x xs ih =>
    have : 2 ^ (23 - x.toNat) ≤ 2 ^ 23 := Nat.pow_le_pow_right (by decide) (by omega)
    simp only [roomTo, List.length_cons, Nat.add_mul]
    split <;> omega
theorem kraft_run (l : List Int) (hl : ∀ n ∈ l, 0 ≤ n ∧ n ≤ 23) (hn : l.length ≤ 24) (d : Nat) : ∀ (j R : Nat), j + d = l.length → R ≤ j * 2 ^ 23 →
    Ev (fun k => impl_kraft.l0 k (R : Int) l (l.length : Int) (j : Int)) ((R + roomTo 23 (l.drop j) : Nat) : Int) := by
  induction d with
  | zero =>
    intro j R hj _
    rw [List.drop_eq_nil_of_le (by omega)]
    refine Ev.step (f := fun _ => some (R : Int)) (fun k => ?_) (Ev.now _)
    simp only [impl_kraft.l0]
    rw [if_neg (by omega)]
  | succ d ih =>
    intro j R hj hR
    have hlt : j < l.length := by omega
    have hm := hl _ (List.getElem_mem hlt)
    rw [drop_cons hlt]
    by_cases h4 : l[j] > 0
    · have hp : 2 ^ (23 - l[j].toNat) ≤ 2 ^ 23 := Nat.pow_le_pow_right (by decide) (by omega)
      have hs := shl_at 1 l[j].toNat 23 (by omega) (by omega) (by omega)
      rw [show ((23 : Nat) : Int) - ((l[j].toNat : Nat) : Int) = 23 - l[j] from by omega] at hs
      have e := ih (j + 1) (R + 2 ^ (23 - l[j].toNat)) (by omega) (by omega)
      simp only [roomTo]
      rw [if_pos (by omega), ← Nat.add_assoc]
      refine Ev.step (fun k => ?_) e
      simp only [impl_kraft.l0]
      rw [if_pos (by omega), if_pos (by omega), if_pos (by omega), rdj, getD_at hlt, if_pos h4, if_pos (by rw [w64 (by omega) (by omega)]; omega), wj (n := l.length) hlt (by omega)]
      rw [show shl .i64 1 (wrap64 (23 - l[j])) = ((2 ^ (23 - l[j].toNat) : Nat) : Int) from by rw [← Nat.one_mul (2 ^ (23 - l[j].toNat)), ← hs]; rfl, w64 (by omega) (by omega)]
      rw [show (R : Int) + ((2 ^ (23 - l[j].toNat) : Nat) : Int) = ((R + 2 ^ (23 - l[j].toNat) : Nat) : Int) from by omega]
    · have e := ih (j + 1) R (by omega) (Nat.le_trans hR (Nat.mul_le_mul_right _ (Nat.le_succ j)))
      simp only [roomTo]
      rw [if_neg (by omega), Nat.zero_add]
      refine Ev.step (fun k => ?_) e
      simp only [impl_kraft.l0]
      rw [if_pos (by omega), if_pos (by omega), if_pos (by omega), rdj, getD_at hlt, if_neg h4, wj (n := l.length) hlt (by omega)]
theorem kraft_is (l : List Int) (hl : ∀ n ∈ l, 0 ≤ n ∧ n ≤ 23) (hn : l.length ≤ 24) : Ev (fun k => impl_kraft.f k l) ((roomTo 23 l : Nat) : Int) ∧ Ev (fun k => spec_l15Kraft.f k l) ((roomTo 23 l : Nat) : Int) := by
  have h := kraft_run l hl hn l.length 0 0 (by omega) (by omega)
  rw [Nat.zero_add, List.drop_zero] at h
  exact ⟨h, Ev.congr (fun k => kraft_same k 0 l l.length 0 hl) h⟩
theorem codes_all (l : List Int) (hn : l.length ≤ 1048576) : ∃ (r : List ByteArray × Bool) (q : Int × Bool), Ev (fun k => impl_CodesOf.f k l) r ∧ Ev (fun k => spec_CodesOf.f k l) r ∧ Ev (fun k => impl_KraftOf.f k l) q ∧ Ev (fun k => spec_KraftOf.f k l) q ∧
    (if q.2 = true then r.2 = decide (q.1 ≤ 8388608) else r.2 = false) ∧ (r.1 = [] ∨ r.1 = codesP l ∧ (∀ n ∈ l, 0 ≤ n ∧ n ≤ 23) ∧ l.length ≤ 24 ∧ roomTo 23 l ≤ 2 ^ 23) := by
  cases hb : lenB l with
  | false =>
    have h1 : Ev (fun k => spec_l15Lengths.f k l) false := by have := l15Lengths_ev l hn; rwa [hb] at this
    have h2 : impl_areLengths.f l = some false := by rw [areLengths_eq, hb]
    refine ⟨([], false), (0, false), ?_, ?_, ?_, ?_, by simp, .inl rfl⟩
    · exact Ev.congr (f := fun _ => some ([], false)) (fun k => by simp [impl_CodesOf.f, impl_areRight.f, h2]) (Ev.now _)
    · unfold spec_CodesOf.f spec_l15Right.f
      exact Ev.bind (a := false) (Ev.bind h1 (Ev.congr (f := fun _ => some false) (fun k => by simp) (Ev.now _))) (Ev.congr (f := fun _ => some ([], false)) (fun k => by simp) (Ev.now _))
    · exact Ev.congr (f := fun _ => some (0, false)) (fun k => by simp [impl_KraftOf.f, h2]) (Ev.now _)
    · unfold spec_KraftOf.f
      exact Ev.bind h1 (Ev.congr (fun k => by simp) (Ev.now _))
  | true =>
    have h1 : Ev (fun k => spec_l15Lengths.f k l) true := by have := l15Lengths_ev l hn; rwa [hb] at this
    have h2 : impl_areLengths.f l = some true := by rw [areLengths_eq, hb]
    obtain ⟨hl, hm⟩ := (lenB_iff l).1 hb
    obtain ⟨k1, k2⟩ := kraft_is l hm (by omega)
    have k3 : Ev (fun k => impl_KraftOf.f k l) (((roomTo 23 l : Nat) : Int), true) := by
      unfold impl_KraftOf.f
      simp only [h2, Option.bind_some, if_true]
      exact Ev.bind k1 (Ev.now _)
    have k4 : Ev (fun k => spec_KraftOf.f k l) (((roomTo 23 l : Nat) : Int), true) := by
      unfold spec_KraftOf.f
      refine Ev.bind h1 ?_
      simp only [if_true]
      exact Ev.bind k2 (Ev.now _)
    have k5 : Ev (fun k => impl_areRight.f k l) (decide (((roomTo 23 l : Nat) : Int) ≤ 8388608)) := by
      unfold impl_areRight.f
      simp only [h2, Option.bind_some, if_true]
      exact Ev.bind k1 (Ev.now _)
    have k6 : Ev (fun k => spec_l15Right.f k l) (decide (((roomTo 23 l : Nat) : Int) ≤ 8388608)) := by
      unfold spec_l15Right.f
      refine Ev.bind h1 ?_
      simp only [if_true]
      exact Ev.bind k2 (Ev.now _)
    by_cases c : ((roomTo 23 l : Nat) : Int) ≤ 8388608
    · rw [decide_eq_true c] at k5 k6
      obtain ⟨c1, c2⟩ := codes_ev l (by omega)
      refine ⟨(codesP l, true), _, ?_, ?_, k3, k4, ?_, .inr ⟨rfl, hm, by omega, by omega⟩⟩
      · unfold impl_CodesOf.f; refine Ev.bind k5 ?_; simp only [if_true]; exact Ev.bind c2 (Ev.now _)
      · unfold spec_CodesOf.f; refine Ev.bind k6 ?_; simp only [if_true]; exact Ev.bind c1 (Ev.now _)
      · rw [if_pos rfl]; exact (decide_eq_true c).symm
    · rw [decide_eq_false c] at k5 k6
      refine ⟨([], false), _, ?_, ?_, k3, k4, ?_, .inl rfl⟩
      · unfold impl_CodesOf.f; exact Ev.bind k5 (Ev.congr (fun k => by simp) (Ev.now _))
      · unfold spec_CodesOf.f; exact Ev.bind k6 (Ev.congr (fun k => by simp) (Ev.now _))
      · rw [if_pos rfl]; exact (decide_eq_false c).symm
theorem sameTexts_l (l : List ByteArray) (hn : l.length ≤ 1048576) (d : Nat) : ∀ (j : Nat), j + d = l.length → Ev (fun k => laws_sameTexts.l0 k l l (l.length : Int) (j : Int)) true := by
  induction d with
  | zero =>
    intro j hj
    refine Ev.step (f := fun _ => some true) (fun k => ?_) (Ev.now _)
    simp only [laws_sameTexts.l0]; rw [if_neg (by omega)]
  | succ d ih =>
    intro j hj
    refine Ev.step (fun k => ?_) (ih (j + 1) (by omega))
    simp only [laws_sameTexts.l0]
    rw [if_pos (by omega), if_pos (by omega), if_pos (by omega), if_pos (by omega), if_pos trivial, wj (n := l.length) (by omega) (by omega)]
theorem sameTexts_ev (l : List ByteArray) (hn : l.length ≤ 1048576) : Ev (fun k => laws_sameTexts.f k l l) true := by
  unfold laws_sameTexts.f
  simp only [if_true]
  exact sameTexts_l l hn l.length 0 (by omega)
/-- What the law asks of codes. -/
structure CodesGood (l : List Int) (c : List ByteArray) : Prop where
  len : c.length ≤ l.length
  small : c.length ≤ 1048576
  size : ∀ i, i < c.length → ((c.getD i ByteArray.empty).size : Int) = l.getD i 0
  pre : ∀ i j, i < c.length → j < c.length → i ≠ j → (c.getD i ByteArray.empty).toList ≠ [] → (c.getD i ByteArray.empty).size ≤ (c.getD j ByteArray.empty).size →
    ((c.getD j ByteArray.empty).extract 0 (c.getD i ByteArray.empty).size).toList ≠ (c.getD i ByteArray.empty).toList
  less : ∀ i j, j < c.length → i < j → (c.getD i ByteArray.empty).toList ≠ [] → (c.getD i ByteArray.empty).size = (c.getD j ByteArray.empty).size →
    Op.bytesLess (c.getD i ByteArray.empty).toList (c.getD j ByteArray.empty).toList = true
theorem CodesGood.nil (l : List Int) : CodesGood l [] := ⟨by simp, by simp, fun i h => absurd h (by simp), fun i j h => absurd h (by simp), fun i j h => absurd h (by simp)⟩
theorem CodesGood.codes (l : List Int) (hm : ∀ n ∈ l, 0 ≤ n ∧ n ≤ 23) (hn : l.length ≤ 24) (hk : roomTo 23 l ≤ 2 ^ 23) : CodesGood l (codesP l) := by
  have at_ : ∀ i, i < l.length → (codesP l).getD i ByteArray.empty = if 1 ≤ lenAt l i then bitText (numOf l (lenAt l i) i) (lenAt l i) else ⟨#[]⟩ := fun i h => by
    rw [getD_at (by rw [codesP_length]; exact h)]; exact codesP_at l hm i h
  have la : ∀ i (h : i < l.length), (lenAt l i : Int) = l[i] ∧ lenAt l i ≤ 23 := fun i h => by
    have := hm _ (List.getElem_mem h)
    unfold lenAt; rw [getD_at h]; omega
  have sz : ∀ i, i < l.length → ((codesP l).getD i ByteArray.empty).size = lenAt l i := fun i h => by
    rw [at_ i h]
    split
    · exact bitText_size _ _
    · have : lenAt l i = 0 := by omega
      rw [this]; rfl
  have one : ∀ i, i < l.length → ((codesP l).getD i ByteArray.empty).toList ≠ [] → 1 ≤ lenAt l i := fun i h hne => by
    rw [at_ i h] at hne
    by_cases c : 1 ≤ lenAt l i
    · exact c
    · rw [if_neg c] at hne; exact absurd (by rw [ByteArray.toList_eq]) hne
  have room : ∀ i (h : i < l.length), 1 ≤ lenAt l i → numOf l (lenAt l i) i < 2 ^ lenAt l i := fun i h h1 => by
    have := numOf_room l (lenAt l i) i h1 (la i h).2 h (la i h).1.symm hk
    omega
  refine ⟨by rw [codesP_length]; exact Nat.le_refl _, by rw [codesP_length]; omega, fun i h => ?_, fun i j hi hj hij hne hle => ?_, fun i j hj hij hne heq => ?_⟩
  · rw [codesP_length] at h
    rw [sz i h, getD_at h, (la i h).1]
  · rw [codesP_length] at hi hj
    have h1 := one i hi hne
    rw [sz i hi, sz j hj] at hle
    rw [sz i hi, at_ i hi, at_ j hj, if_pos h1, if_pos (by omega), ByteArray.toList_eq, ByteArray.toList_eq, Lib.extract_from_zero, bitText_data, bitText_data]
    intro e
    have e2 := prefix_bits hle (room i hi h1) (room j hj (by omega)) e
    have hP := Nat.two_pow_pos (lenAt l j - lenAt l i)
    by_cases c : lenAt l i < lenAt l j ∨ lenAt l i = lenAt l j ∧ i < j
    · have o := numOf_order l (b := lenAt l j) (j := j) h1 hi (la i hi).1.symm c
      have := (Nat.le_div_iff_mul_le hP).2 o
      omega
    · have o := numOf_order l (b := lenAt l i) (j := i) (a := lenAt l j) (i := j) (by omega) hj (la j hj).1.symm (by omega)
      have e3 : lenAt l j - lenAt l i = 0 := by omega
      have e4 : lenAt l i - lenAt l j = 0 := by omega
      rw [e3, Nat.pow_zero, Nat.div_one] at e2
      rw [e4, Nat.pow_zero, Nat.mul_one] at o
      omega
  · rw [codesP_length] at hj
    have hi : i < l.length := by omega
    have h1 := one i hi hne
    rw [sz i hi, sz j hj] at heq
    have ri := room i hi h1
    have rj := room j hj (by omega)
    have o := numOf_order l (b := lenAt l j) (j := j) h1 hi (la i hi).1.symm (.inr ⟨heq, hij⟩)
    rw [heq, Nat.sub_self, Nat.pow_zero, Nat.mul_one] at o
    rw [at_ i hi, at_ j hj, if_pos h1, if_pos (by omega), ByteArray.toList_eq, ByteArray.toList_eq, bitText_data, bitText_data, heq]
    rw [heq] at ri
    refine less_bits _ _ _ ?_
    rw [Nat.mod_eq_of_lt ri, Nat.mod_eq_of_lt rj]; omega
theorem fc_inner {l : List Int} {c : List ByteArray} (hc : CodesGood l c) {i : Nat} (hi : i < c.length)
    (next : Ev (fun k => laws_FnCodes.l0 k l c c (c.length : Int) ((i + 1 : Nat) : Int)) true) (d : Nat) : ∀ (j : Nat), j + d = c.length →
    Ev (fun k => laws_FnCodes.l1 k l c (i : Int) (c.getD i ByteArray.empty) c (c.length : Int) (i : Int) c (c.length : Int) (j : Int)) true := by
  have hsm := hc.small
  induction d with
  | zero =>
    intro j hj
    refine Ev.step (fun k => ?_) next
    simp only [laws_FnCodes.l1]
    rw [if_neg (by omega), wj (n := c.length) hi (by omega)]
  | succ d ih =>
    intro j hj
    have hj2 : j < c.length := by omega
    have hjd : rdOf ByteArray.empty c (j : Int) = c.getD j ByteArray.empty := rfl
    have J : Ev (fun k => laws_FnCodes.j3 k l c (i : Int) (c.getD i ByteArray.empty) (j : Int) (c.getD j ByteArray.empty) c (c.length : Int) (i : Int) c (c.length : Int) (j : Int) false) true := by
      refine Ev.step (fun k => ?_) (ih (j + 1) (by omega))
      simp only [laws_FnCodes.j3, wj hj2 (show c.length ≤ 4611686018427387904 by omega)]
      rw [if_neg (by simp)]
      by_cases c1 : (i : Int) < (j : Int)
      · rw [if_pos c1]
        by_cases c2 : ((c.getD i ByteArray.empty).size : Int) = ((c.getD j ByteArray.empty).size : Int)
        · rw [if_pos c2]
          by_cases c3 : (c.getD i ByteArray.empty).toList = []
          · rw [if_pos c3]
          · rw [if_neg c3, if_pos (hc.less i j hj2 (by omega) c3 (by omega))]
        · rw [if_neg c2]
      · rw [if_neg c1]
    refine Ev.step (fun k => ?_) J
    simp only [laws_FnCodes.l1, hjd]
    rw [if_pos (by omega), if_pos (by omega), if_pos (by omega)]
    by_cases c0 : (i : Int) = (j : Int)
    · rw [if_pos c0]
    · rw [if_neg c0]
      by_cases c3 : (c.getD i ByteArray.empty).toList = []
      · rw [if_pos c3]
      · rw [if_neg c3]
        by_cases c4 : ((c.getD j ByteArray.empty).size : Int) ≥ ((c.getD i ByteArray.empty).size : Int)
        · rw [if_pos c4, if_pos (by omega), if_pos c4, Int.toNat_natCast]
          have hp := hc.pre i j hi hj2 (by omega) c3 (by omega)
          rw [beq_eq_false_iff_ne.2 hp]
        · rw [if_neg c4]
theorem fc_outer {l : List Int} {c : List ByteArray} (hc : CodesGood l c) (d : Nat) : ∀ (i : Nat), i + d = c.length → Ev (fun k => laws_FnCodes.l0 k l c c (c.length : Int) (i : Int)) true := by
  have hsm := hc.small
  have hlen := hc.len
  induction d with
  | zero =>
    intro i hi
    refine Ev.step (f := fun _ => some true) (fun k => ?_) (Ev.now _)
    simp only [laws_FnCodes.l0]; rw [if_neg (by omega)]
  | succ d ih =>
    intro i hi
    have hid : rdOf ByteArray.empty c (i : Int) = c.getD i ByteArray.empty := rfl
    refine Ev.step (fun k => ?_) (fc_inner hc (i := i) (by omega) (ih (i + 1) (by omega)) c.length 0 (by omega))
    simp only [laws_FnCodes.l0, hid]
    rw [if_pos (by omega), if_pos (by omega), if_pos (by omega), if_pos (by omega), rdj, if_pos (hc.size i (by omega))]; rfl
theorem FnCodes : laws_FnCodes.Pure := by
  intro l0 _ _ hl0
  refine Ev.law ?_
  unfold laws_FnCodes.f
  by_cases hn : (l0.length : Int) > 1048576
  · exact Ev.congr (fun k => by rw [if_pos hn]) (Ev.now _)
  simp only [if_neg hn]
  obtain ⟨l, hd, hl⟩ := drawCodes_ok (byt_of hl0)
  obtain ⟨r, q, h1, h2, h3, h4, h5, h6⟩ := codes_all l (by omega)
  have hc : CodesGood l r.1 := by
    rcases h6 with h6 | ⟨h6, h7, h8, h9⟩
    · rw [h6]; exact CodesGood.nil l
    · rw [h6]; exact CodesGood.codes l h7 h8 h9
  refine Ev.bind hd (Ev.bind h1 (Ev.bind h2 (Ev.bind h3 (Ev.bind h4 ?_))))
  have e1 : ¬ ((r.2 != r.2) = true) := by simp
  have e2 : ¬ ((q.2 != q.2) = true) := by simp
  simp only [if_neg e1, if_neg e2, if_true]
  refine Ev.bind (sameTexts_ev r.1 hc.small) ?_
  have J : Ev (fun k => laws_FnCodes.j0 k l r.1 false) true := by
    refine Ev.step (fun k => ?_) (fc_outer hc r.1.length 0 (by omega))
    simp only [laws_FnCodes.j0]
    rw [if_neg (by simp)]; rfl
  simp only [if_true]
  by_cases c : q.2 = true
  · rw [if_pos c] at h5
    simp only [if_pos c, h5, bne_self_eq_false]
    exact J
  · rw [if_neg c] at h5
    simp only [if_neg c, h5, bne_self_eq_false]
    exact J

end Go.Proofs.Ytobbhgghpjecjaa.Pure
