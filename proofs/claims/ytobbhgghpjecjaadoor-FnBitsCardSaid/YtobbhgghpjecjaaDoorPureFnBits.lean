/- At every draw the law answers true: what is encoded is decoded again and what is packed is unpacked again. -/
import Derived.Test.YtobbhgghpjecjaaDoorPFnBitsx10
import Derived.Lib.RabinKarpLaws
import Derived.Lib.Split
namespace Go.Proofs.YtobbhgghpjecjaaDoor.Pure
open Go.RowKit Go.Proofs.YtobbhgghpjecjaaDoor.PFnBits Go.Proofs.YtobbhgghpjecjaaDoorW.PrintWords Go.Proofs.YtobbhgghpjecjaaDoorW.PrintLast Go.Proofs.YtobbhgghpjecjaaDoorW.PrintMore Go.Proofs.YtobbhgghpjecjaaDoorOwn
set_option linter.unusedVariables false
set_option linter.unusedSimpArgs false

theorem wj {j n : Nat} (h : j < n) (hn : n ≤ 4611686018427387904) : wrap64 ((j : Int) + 1) = ((j + 1 : Nat) : Int) := by
  unfold wrap64; omega
theorem w64 {x : Int} (h0 : -9223372036854775808 ≤ x) (h1 : x ≤ 9223372036854775807) : wrap64 x = x := by
  unfold wrap64; omega
theorem rdj (l : List Int) (j : Nat) : rd l (j : Int) = l.getD j 0 := rfl
theorem getD_at {α : Type} {l : List α} {j : Nat} (h : j < l.length) (z : α) : l.getD j z = l[j] := by
  rw [List.getD_eq_getElem?_getD, List.getElem?_eq_getElem h]; rfl
theorem Ev.law {g : Nat → Option Bool} (h : Ev g true) : ∃ k, g k = some true := h.rounds
theorem wf_i64 {x : Int} (h : (Lit.int .i64 x).wf = true) : -9223372036854775808 ≤ x ∧ x ≤ 9223372036854775807 := by
  simp only [Lit.wf, IntKind.min, IntKind.max, IntKind.signed, IntKind.bits, Bool.and_eq_true, decide_eq_true_eq, if_true] at h
  omega

theorem l1In_eq (a b c : Int) : spec_l1In.f a b c = some (decide (b ≤ a ∧ a ≤ c)) := by
  unfold spec_l1In.f; by_cases h : b ≤ a <;> simp [h]
theorem within_eq (a b c : Int) : impl_within.f a b c = some (decide (b ≤ a ∧ a ≤ c)) := by
  unfold impl_within.f; by_cases h : b ≤ a <;> simp [h]

/-- Numbers that are lengths. -/
def lenB (l : List Int) : Bool := decide (1 ≤ (l.length : Int) ∧ (l.length : Int) ≤ 24) && l.all fun n => decide (0 ≤ n ∧ n ≤ 23)
theorem lenB_iff (l : List Int) : lenB l = true ↔ (1 ≤ (l.length : Int) ∧ (l.length : Int) ≤ 24) ∧ ∀ n ∈ l, 0 ≤ n ∧ n ≤ 23 := by
  simp [lenB, List.all_eq_true]
theorem areLengths_eq (l : List Int) : impl_areLengths.f l = some (lenB l) := by
  unfold impl_areLengths.f impl_areAll_int__59.f
  rw [within_eq, allO_all (q := fun n => decide (0 ≤ n ∧ n ≤ 23)) (fun x => by unfold impl_areLengths_1.f; rw [within_eq]; rfl)]
  simp only [Option.bind_some, lenB]
  by_cases h : 1 ≤ (l.length : Int) ∧ (l.length : Int) ≤ 24 <;> simp [h]
theorem l15Lengths_l (l : List Int) (hn : l.length ≤ 1048576) (d : Nat) : ∀ (j : Nat), j + d = l.length → (∀ n ∈ l.take j, 0 ≤ n ∧ n ≤ 23) → Ev (fun k => spec_l15Lengths.l0 k l l (l.length : Int) (j : Int)) (lenB l) := by
  induction d with
  | zero =>
    intro j hj ha
    refine Ev.step (f := fun _ => some (lenB l)) (fun k => ?_) (Ev.now _)
    simp only [spec_l15Lengths.l0]
    rw [if_neg (by omega), l1In_eq]
    simp only [Option.bind_some, Option.some.injEq, lenB]
    rw [List.take_of_length_le (by omega)] at ha
    rw [show (l.all fun n => decide (0 ≤ n ∧ n ≤ 23)) = true from by simpa [List.all_eq_true] using ha, Bool.and_true]
  | succ d ih =>
    intro j hj ha
    have hlt : j < l.length := by omega
    by_cases hx : 0 ≤ l[j] ∧ l[j] ≤ 23
    · refine Ev.step (fun k => ?_) (ih (j + 1) (by omega) (fun n hm => ?_))
      · simp only [spec_l15Lengths.l0]
        rw [if_pos (by omega), if_pos (by omega), if_pos (by omega), l1In_eq, rdj, getD_at hlt]
        simp only [Option.bind_some, decide_eq_true_eq]
        rw [if_pos hx, wj (n := l.length) hlt (by omega)]
      · rw [List.take_succ_eq_append_getElem hlt, List.mem_append] at hm
        rcases hm with hm | hm
        · exact ha n hm
        · rw [List.mem_singleton.1 hm]; exact hx
    · refine Ev.step (f := fun _ => some (lenB l)) (fun k => ?_) (Ev.now _)
      simp only [spec_l15Lengths.l0]
      rw [if_pos (by omega), if_pos (by omega), if_pos (by omega), l1In_eq, rdj, getD_at hlt]
      simp only [Option.bind_some, decide_eq_true_eq]
      rw [if_neg hx]
      refine congrArg some ?_
      symm
      rw [Bool.eq_false_iff]
      intro h
      exact hx ((lenB_iff l).1 h |>.2 _ (List.getElem_mem hlt))
theorem l15Lengths_ev (l : List Int) (hn : l.length ≤ 1048576) : Ev (fun k => spec_l15Lengths.f k l) (lenB l) :=
  l15Lengths_l l hn l.length 0 (by omega) (by simp)

theorem shl_eq (n : Int) (h0 : 0 ≤ n) (h1 : n ≤ 23) : shl .i64 1 (IntKind.u64.wrap (wrap64 (23 - n))) = shl .i64 1 (wrap64 (23 - n)) := by
  rw [w64 (by omega) (by omega)]
  refine congrArg (shl .i64 1) ?_
  simp only [IntKind.wrap, IntKind.bits, IntKind.signed]; simp; omega
theorem kraft_same (k : Nat) : ∀ (x3 : Int) (l : List Int) (x7 x8 : Int), (∀ n ∈ l, 0 ≤ n ∧ n ≤ 23) → spec_l15Kraft.l0 k x3 l x7 x8 = impl_kraft.l0 k x3 l x7 x8 := by
  induction k with
  | zero => intros; rfl
  | succ k ih =>
    intro x3 l x7 x8 hl
    simp only [spec_l15Kraft.l0, impl_kraft.l0]
    by_cases h1 : x8 < x7
    · rw [if_pos h1, if_pos h1]
      by_cases h2 : 0 ≤ x8
      · rw [if_pos h2, if_pos h2]
        by_cases h3 : x8 < (l.length : Int)
        · rw [if_pos h3, if_pos h3]
          have hm : 0 ≤ rd l x8 ∧ rd l x8 ≤ 23 := by
            have : rd l x8 = l[x8.toNat]'(by omega) := getD_at (by omega) 0
            rw [this]; exact hl _ (List.getElem_mem _)
          by_cases h4 : rd l x8 > 0
          · rw [if_pos h4, if_pos h4, if_pos (by rw [w64 (by omega) (by omega)]; simp only [IntKind.wrap, IntKind.bits, IntKind.signed]; simp; omega), if_pos (by rw [w64 (by omega) (by omega)]; omega), shl_eq _ hm.1 hm.2]
            exact ih _ _ _ _ hl
          · rw [if_neg h4, if_neg h4]
            exact ih _ _ _ _ hl
        · rw [if_neg h3, if_neg h3]
      · rw [if_neg h2, if_neg h2]
    · rw [if_neg h1, if_neg h1]
/-- It ends. -/
theorem kraft_ends (l : List Int) (hl : ∀ n ∈ l, 0 ≤ n ∧ n ≤ 23) (hn : l.length ≤ 1048576) (d : Nat) : ∀ (j : Nat) (x3 : Int), j + d = l.length → ∃ r, Ev (fun k => impl_kraft.l0 k x3 l (l.length : Int) (j : Int)) r := by
  induction d with
  | zero =>
    intro j x3 hj
    refine ⟨x3, Ev.step (f := fun _ => some x3) (fun k => ?_) (Ev.now _)⟩
    simp only [impl_kraft.l0]
    rw [if_neg (by omega)]
  | succ d ih =>
    intro j x3 hj
    have hlt : j < l.length := by omega
    have hm := hl _ (List.getElem_mem hlt)
    by_cases h4 : l[j] > 0
    · obtain ⟨r, hr⟩ := ih (j + 1) (wrap64 (x3 + shl .i64 1 (wrap64 (23 - l[j])))) (by omega)
      refine ⟨r, Ev.step (fun k => ?_) hr⟩
      simp only [impl_kraft.l0]
      rw [if_pos (by omega), if_pos (by omega), if_pos (by omega), rdj, getD_at hlt, if_pos h4, if_pos (by rw [w64 (by omega) (by omega)]; omega), wj (n := l.length) hlt (by omega)]
    · obtain ⟨r, hr⟩ := ih (j + 1) x3 (by omega)
      refine ⟨r, Ev.step (fun k => ?_) hr⟩
      simp only [impl_kraft.l0]
      rw [if_pos (by omega), if_pos (by omega), if_pos (by omega), rdj, getD_at hlt, if_neg h4, wj (n := l.length) hlt (by omega)]
theorem kraft_both (l : List Int) (hl : ∀ n ∈ l, 0 ≤ n ∧ n ≤ 23) (hn : l.length ≤ 1048576) : ∃ r, Ev (fun k => impl_kraft.f k l) r ∧ Ev (fun k => spec_l15Kraft.f k l) r := by
  obtain ⟨r, hr⟩ := kraft_ends l hl hn l.length 0 0 (by omega)
  exact ⟨r, hr, Ev.congr (fun k => kraft_same k 0 l l.length 0 hl) hr⟩

--IMPORT Derived.Lib.RabinKarpLaws
/-- The bytes of a number in so many bits. -/
def bitNum (n s i : Nat) : Int := ((48 + n / 2 ^ (s - 1 - i) % 2 : Nat) : Int)
def bitNums (n s : Nat) : List Int := (List.range s).map (bitNum n s)
def bitText (n s : Nat) : ByteArray := strOfNums (bitNums n s)
theorem bitNums_length (n s : Nat) : (bitNums n s).length = s := by simp [bitNums]
theorem shr_nat (n e : Nat) (he : e ≤ 63) : shr .i64 (n : Int) (e : Int) = ((n / 2 ^ e : Nat) : Int) := by
  unfold shr
  rw [show min (e : Int).toNat IntKind.i64.bits = e from by simp only [IntKind.bits]; omega]
  rw [Int.natCast_ediv, Int.natCast_pow]; rfl
theorem u64_small {x : Int} (h0 : 0 ≤ x) (h1 : x ≤ 9223372036854775807) : IntKind.u64.wrap x = x := by
  simp only [IntKind.wrap, IntKind.bits, IntKind.signed]; simp; omega
theorem bit_step (n e : Nat) (hn : n < 9223372036854775808) : Go.bits .and .i64 ((n / 2 ^ e : Nat) : Int) 1 = ((n / 2 ^ e % 2 : Nat) : Int) :=
  Go.Proofs.and_one (n / 2 ^ e) (Nat.lt_of_le_of_lt (Nat.div_le_self _ _) hn)
theorem bits_l (n s : Nat) (hn : n < 9223372036854775808) (hs : s ≤ 60) (d : Nat) : ∀ (j : Nat) (x : List Int), j + d = s → x.length = s → (∀ i, i < j → x[i]? = some (bitNum n s i)) →
    Ev (fun k => spec_l15Bits.l0 k (n : Int) (s : Int) x (s : Int) (j : Int)) (bitText n s) ∧ Ev (fun k => impl_binary.l0 k (n : Int) (s : Int) x (s : Int) (j : Int)) (bitText n s) := by
  induction d with
  | zero =>
    intro j x hj hx he
    have e : x = bitNums n s := List.ext_getElem? fun i => by
      by_cases hi : i < s
      · rw [he i (by omega)]; simp [bitNums, hi]
      · rw [List.getElem?_eq_none (by omega), List.getElem?_eq_none (by rw [bitNums_length]; omega)]
    subst e
    constructor
    · refine Ev.step (f := fun _ => some (bitText n s)) (fun k => ?_) (Ev.now _)
      simp only [spec_l15Bits.l0]; rw [if_neg (by omega)]; rfl
    · refine Ev.step (f := fun _ => some (bitText n s)) (fun k => ?_) (Ev.now _)
      simp only [impl_binary.l0]; rw [if_neg (by omega)]; rfl
  | succ d ih =>
    intro j x hj hx he
    have hb : 0 ≤ n / 2 ^ (s - 1 - j) % 2 ∧ n / 2 ^ (s - 1 - j) % 2 < 2 := ⟨Nat.zero_le _, Nat.mod_lt _ (by decide)⟩
    have hw : wrap64 (wrap64 ((s : Int) - 1) - (j : Int)) = ((s - 1 - j : Nat) : Int) := by
      rw [w64 (x := (s : Int) - 1) (by omega) (by omega), w64 (by omega) (by omega)]; omega
    obtain ⟨h1, h2⟩ := ih (j + 1) (x.set j (bitNum n s j)) (by omega) (by simpa using hx) (fun i hi => by
      rw [List.getElem?_set]
      split
      · rename_i h; subst h; rw [if_pos (by omega)]
      · exact he i (by omega))
    constructor
    · refine Ev.step (fun k => ?_) h1
      simp only [spec_l15Bits.l0]
      rw [if_pos (by omega), hw, u64_small (by omega) (by omega), if_pos (by omega), if_pos (by omega), if_pos (by omega), shr_nat n _ (by omega), bit_step n _ hn, wj (n := s) (by omega) (by omega)]
      rw [show (48 + ((n / 2 ^ (s - 1 - j) % 2 : Nat) : Int) % 256) % 256 = bitNum n s j from by unfold bitNum; omega]
      rfl
    · refine Ev.step (fun k => ?_) h2
      simp only [impl_binary.l0]
      rw [if_pos (by omega), hw, if_pos (by omega), if_pos (by omega), if_pos (by omega), shr_nat n _ (by omega), bit_step n _ hn, wj (n := s) (by omega) (by omega)]
      rw [show (wrap64 (48 + ((n / 2 ^ (s - 1 - j) % 2 : Nat) : Int))) % 256 = bitNum n s j from by rw [w64 (by omega) (by omega)]; unfold bitNum; omega]
      rfl
theorem bits_ev (n s : Nat) (hn : n < 9223372036854775808) (hs : s ≤ 60) : Ev (fun k => spec_l15Bits.f k (n : Int) (s : Int)) (bitText n s) ∧ Ev (fun k => impl_binary.f k (n : Int) (s : Int)) (bitText n s) := by
  obtain ⟨h1, h2⟩ := bits_l n s hn hs s 0 (List.replicate s 0) (by omega) (by simp) (fun i hi => by omega)
  constructor
  · refine Ev.congr (fun k => ?_) h1
    simp only [spec_l15Bits.f]
    rw [if_pos (by omega), if_pos (by omega)]
    simp
  · refine Ev.congr (fun k => ?_) h2
    simp only [impl_binary.f]
    rw [if_pos (by omega), if_pos (by omega)]
    simp

/-- The codes of one length: of the lengths and what stands there so far; the next number. -/
def cin (s : Nat) : List Int → List ByteArray → Nat → List ByteArray × Nat
  | x :: xs, o :: os, n => if x = (s : Int) then (bitText n s :: (cin s xs os (n + 1)).1, (cin s xs os (n + 1)).2) else (o :: (cin s xs os n).1, (cin s xs os n).2)
  | _, _, n => ([], n)
/-- The codes from one length on. -/
def cout (l : List Int) : Nat → Nat → List ByteArray → Nat → List ByteArray
  | 0, _, out, _ => out
  | d + 1, s, out, n => cout l d (s + 1) (cin s l out (2 * n)).1 (cin s l out (2 * n)).2
/-- The codes of lengths. -/
def codesP (l : List Int) : List ByteArray := cout l 23 1 (List.replicate l.length ⟨#[]⟩) 0
theorem cin_length (s : Nat) : ∀ (l : List Int) (os : List ByteArray) (n : Nat), l.length = os.length → (cin s l os n).1.length = l.length
  | [], [], _, _ => rfl
  | x :: xs, o :: os, n, h => by
    unfold cin
    split
    · simp [cin_length s xs os (n + 1) (by simpa using h)]
    · simp [cin_length s xs os n (by simpa using h)]
theorem cin_le (s : Nat) : ∀ (l : List Int) (os : List ByteArray) (n : Nat), (cin s l os n).2 ≤ n + l.length
  | [], _, n => by simp [cin]
  | x :: xs, [], n => by simp [cin]
  | x :: xs, o :: os, n => by
    unfold cin
    split
    · have := cin_le s xs os (n + 1); simp; omega
    · have := cin_le s xs os n; simp; omega
theorem drop_cons {α : Type} {l : List α} {j : Nat} (h : j < l.length) : l.drop j = l[j] :: l.drop (j + 1) := List.drop_eq_getElem_cons h
theorem shl_at (n q s : Nat) (hq : q ≤ s) (hs : s ≤ 60) (hn : n * 2 ^ (s - q) < 9223372036854775808) : shl .i64 (n : Int) (wrap64 ((s : Int) - (q : Int))) = ((n * 2 ^ (s - q) : Nat) : Int) := by
  rw [w64 (by omega) (by omega)]
  unfold shl
  rw [show min ((s : Int) - (q : Int)).toNat IntKind.i64.bits = s - q from by simp only [IntKind.bits]; omega]
  rw [show (n : Int) * 2 ^ (s - q) = ((n * 2 ^ (s - q) : Nat) : Int) from by rw [Int.natCast_mul, Int.natCast_pow]; rfl]
  generalize n * 2 ^ (s - q) = z at hn
  simp only [IntKind.wrap, IntKind.bits, IntKind.signed]; simp; omega
theorem codes_l1 (l : List Int) (hl : l.length ≤ 24) (s : Nat) (hs0 : 1 ≤ s) (hs : s ≤ 23) (r : List ByteArray)
    (H : ∀ (out : List ByteArray) (n q m : Nat), q ≤ s → m * 2 ^ (s - q) = n → n ≤ 24 * 2 ^ s - 24 → out.length = l.length → (cout l (23 - s) (s + 1) out n = r) →
      Ev (fun k => spec_l15Codes.l0 k l out (n : Int) ((s + 1 : Nat) : Int)) r ∧ Ev (fun k => impl_codesOf.l0 k l out (m : Int) (q : Int) ((s + 1 : Nat) : Int)) r) (d : Nat) :
    ∀ (j : Nat) (pre os : List ByteArray) (n q m : Nat), j + d = l.length → pre.length = j → os.length = d → q ≤ s → m * 2 ^ (s - q) = n → n + d ≤ 24 * 2 ^ s - 24 →
      cout l (23 - s) (s + 1) (pre ++ (cin s (l.drop j) os n).1) (cin s (l.drop j) os n).2 = r →
      Ev (fun k => spec_l15Codes.l1 k l (pre ++ os) (n : Int) (s : Int) l (l.length : Int) (j : Int)) r ∧ Ev (fun k => impl_codesOf.l1 k l (pre ++ os) (m : Int) (q : Int) (s : Int) l (l.length : Int) (j : Int)) r := by
  have hp : 2 ^ s ≤ 8388608 := Nat.pow_le_pow_right (n := 2) (by decide) hs
  induction d with
  | zero =>
    intro j pre os n q m hj hpre hos hq hm hn hr
    obtain rfl : os = [] := List.eq_nil_of_length_eq_zero hos
    rw [List.drop_eq_nil_of_le (by omega)] at hr
    simp only [cin, List.append_nil] at hr
    obtain ⟨h1, h2⟩ := H pre n q m hq hm (by omega) (by omega) hr
    rw [List.append_nil]
    constructor
    · refine Ev.step (fun k => ?_) h1
      simp only [spec_l15Codes.l1]
      rw [if_neg (by omega), w64 (by omega) (by omega)]; rfl
    · refine Ev.step (fun k => ?_) h2
      simp only [impl_codesOf.l1]
      rw [if_neg (by omega), w64 (by omega) (by omega)]; rfl
  | succ d ih =>
    intro j pre os n q m hj hpre hos hq hm hn hr
    have hlt : j < l.length := by omega
    obtain ⟨o, os, rfl⟩ : ∃ o os', os = o :: os' := by cases os with | nil => simp at hos | cons o os => exact ⟨o, os, rfl⟩
    simp only [List.length_cons, Nat.add_right_cancel_iff] at hos
    rw [drop_cons hlt] at hr
    unfold cin at hr
    have hset : ∀ (y : ByteArray), (pre ++ o :: os).set j y = (pre ++ [y]) ++ os := fun y => by
      rw [List.set_append_right _ _ (by omega)]; simp [hpre]
    by_cases hx : l[j] = (s : Int)
    · rw [if_pos hx] at hr
      obtain ⟨h1, h2⟩ := ih (j + 1) (pre ++ [bitText n s]) os (n + 1) s (n + 1) (by omega) (by simp [hpre]) hos (Nat.le_refl _) (by simp) (by omega) (by rw [List.append_assoc]; exact hr)
      obtain ⟨b1, b2⟩ := bits_ev n s (by omega) (by omega)
      constructor
      · refine Ev.step (f := fun k => (spec_l15Bits.f k (n : Int) (s : Int)).bind fun t => spec_l15Codes.l1 k l (pre ++ [t] ++ os) ((n + 1 : Nat) : Int) (s : Int) l (l.length : Int) ((j + 1 : Nat) : Int)) (fun k => ?_) (Ev.bind b1 h1)
        simp only [spec_l15Codes.l1]
        rw [if_pos (by omega), if_pos (by omega), if_pos (by omega), rdj, getD_at hlt, if_pos hx]
        refine congrArg _ (funext fun t => ?_)
        rw [if_pos (by simp; omega), w64 (x := (n : Int) + 1) (by omega) (by omega), wj (n := l.length) hlt (by omega), Int.toNat_natCast, hset]
        rfl
      · refine Ev.step (f := fun k => (impl_binary.f k (n : Int) (s : Int)).bind fun t => impl_codesOf.l1 k l (pre ++ [t] ++ os) ((n + 1 : Nat) : Int) (s : Int) (s : Int) l (l.length : Int) ((j + 1 : Nat) : Int)) (fun k => ?_) (Ev.bind b2 h2)
        simp only [impl_codesOf.l1]
        rw [if_pos (by omega), if_pos (by omega), if_pos (by omega), rdj, getD_at hlt, if_pos hx, if_pos (by rw [w64 (by omega) (by omega)]; omega), shl_at m q s hq (by omega) (by omega), hm]
        refine congrArg _ (funext fun t => ?_)
        rw [if_pos (by simp; omega), w64 (x := (n : Int) + 1) (by omega) (by omega), wj (n := l.length) hlt (by omega), Int.toNat_natCast, hset]
        rfl
    · rw [if_neg hx] at hr
      obtain ⟨h1, h2⟩ := ih (j + 1) (pre ++ [o]) os n q m (by omega) (by simp [hpre]) hos hq hm (by omega) (by rw [List.append_assoc]; exact hr)
      rw [List.append_assoc] at h1 h2
      constructor
      · refine Ev.step (fun k => ?_) h1
        simp only [spec_l15Codes.l1]
        rw [if_pos (by omega), if_pos (by omega), if_pos (by omega), rdj, getD_at hlt, if_neg hx, wj (n := l.length) hlt (by omega)]
        rfl
      · refine Ev.step (fun k => ?_) h2
        simp only [impl_codesOf.l1]
        rw [if_pos (by omega), if_pos (by omega), if_pos (by omega), rdj, getD_at hlt, if_neg hx, wj (n := l.length) hlt (by omega)]
        rfl
theorem codes_l0 (l : List Int) (hl : l.length ≤ 24) (d : Nat) : ∀ (s : Nat) (out : List ByteArray) (n q m : Nat), s + d = 24 → 1 ≤ s → q + 1 ≤ s → m * 2 ^ (s - 1 - q) = n → n ≤ 24 * 2 ^ (s - 1) - 24 → out.length = l.length →
    Ev (fun k => spec_l15Codes.l0 k l out (n : Int) (s : Int)) (cout l d s out n) ∧ Ev (fun k => impl_codesOf.l0 k l out (m : Int) (q : Int) (s : Int)) (cout l d s out n) := by
  induction d with
  | zero =>
    intro s out n q m hs hs1 hq hm hn ho
    constructor
    · refine Ev.step (f := fun _ => some out) (fun k => ?_) (Ev.now _)
      simp only [spec_l15Codes.l0]; rw [if_neg (by omega)]
    · refine Ev.step (f := fun _ => some out) (fun k => ?_) (Ev.now _)
      simp only [impl_codesOf.l0]; rw [if_neg (by omega)]
  | succ d ih =>
    intro s out n q m hs hs1 hq hm hn ho
    have hp : 2 ^ (s - 1) ≤ 8388608 := Nat.pow_le_pow_right (n := 2) (by decide) (show s - 1 ≤ 23 by omega)
    have hps : 2 ^ s = 2 * 2 ^ (s - 1) := by
      rw [show s = (s - 1) + 1 from by omega, Nat.pow_succ]; simp; omega
    have hp1 : 1 ≤ 2 ^ (s - 1) := Nat.one_le_two_pow
    obtain rfl : d = 23 - s := by omega
    obtain ⟨h1, h2⟩ := codes_l1 l hl s hs1 (by omega) (cout l (23 - s + 1) s out n) (fun out' n' q' m' hq' hm' hn' ho' hr' => by
        have := ih (s + 1) out' n' q' m' (by omega) (by omega) (by omega) (by simpa using hm') (by simpa using hn') ho'
        rw [hr'] at this
        exact this) l.length 0 [] out (2 * n) q m (by omega) rfl ho (by omega) (by rw [← hm, show s - q = (s - 1 - q) + 1 from by omega, Nat.pow_succ]; rw [Nat.mul_comm 2, Nat.mul_assoc]) (by omega) (by rfl)
    constructor
    · refine Ev.step (fun k => ?_) h1
      simp only [spec_l15Codes.l0]
      rw [if_pos (by omega), w64 (by omega) (by omega), show (n : Int) * 2 = ((2 * n : Nat) : Int) from by omega]
      rfl
    · refine Ev.step (fun k => ?_) h2
      simp only [impl_codesOf.l0]
      rw [if_pos (by omega)]
      rfl
theorem codes_ev (l : List Int) (hl : l.length ≤ 24) : Ev (fun k => spec_l15Codes.f k l) (codesP l) ∧ Ev (fun k => impl_codesOf.f k l) (codesP l) := by
  obtain ⟨h1, h2⟩ := codes_l0 l hl 23 1 (List.replicate l.length ⟨#[]⟩) 0 0 0 (by omega) (by omega) (by omega) (by omega) (by omega) (by simp)
  constructor
  · refine Ev.congr (fun k => ?_) h1
    simp only [spec_l15Codes.f]
    rw [if_pos (by omega), if_pos (by omega)]
    rfl
  · refine Ev.congr (fun k => ?_) h2
    simp only [impl_codesOf.f]
    rw [if_pos (by omega), if_pos (by omega)]
    rfl

--IMPORT Derived.Lib.Split
/-- How many of a list are s. -/
def cnt (s : Nat) : List Int → Nat
  | [] => 0
  | x :: xs => (if x = (s : Int) then 1 else 0) + cnt s xs
/-- The first number of the codes of length d + 1. -/
def stp (l : List Int) : Nat → Nat
  | 0 => 0
  | d + 1 => 2 * (stp l d + cnt (d + 1) l)
/-- The number of a code of length a at place i. -/
def numOf (l : List Int) (a i : Nat) : Nat := stp l (a - 1) + cnt a (l.take i)
/-- How much room lengths need, up to one. -/
def roomTo (s : Nat) : List Int → Nat
  | [] => 0
  | x :: xs => (if 1 ≤ x ∧ x ≤ (s : Int) then 2 ^ (23 - x.toNat) else 0) + roomTo s xs
theorem cin_at (s : Nat) : ∀ (l : List Int) (os : List ByteArray) (n i : Nat), l.length = os.length → (h : i < l.length) →
    (cin s l os n).1[i]? = if l[i] = (s : Int) then some (bitText (n + cnt s (l.take i)) s) else os[i]?
  | x :: xs, o :: os, n, 0, _, _ => by
    unfold cin
    by_cases c : x = (s : Int)
    · simp [c, cnt]
    · simp [c]
  | x :: xs, o :: os, n, i + 1, hl, h => by
    have hl' : xs.length = os.length := by simpa using hl
    have h' : i < xs.length := by simpa using h
    unfold cin
    by_cases c : x = (s : Int)
    · rw [if_pos c]
      have := cin_at s xs os (n + 1) i hl' h'
      simp only [List.getElem?_cons_succ, List.getElem_cons_succ, List.take_succ_cons, cnt, if_pos c]
      rw [this, Nat.add_assoc]
    · rw [if_neg c]
      have := cin_at s xs os n i hl' h'
      simp only [List.getElem?_cons_succ, List.getElem_cons_succ, List.take_succ_cons, cnt, if_neg c]
      rw [this, Nat.zero_add]
theorem cin_next (s : Nat) : ∀ (l : List Int) (os : List ByteArray) (n : Nat), l.length = os.length → (cin s l os n).2 = n + cnt s l
  | [], [], _, _ => rfl
  | x :: xs, o :: os, n, hl => by
    have hl' : xs.length = os.length := by simpa using hl
    unfold cin
    by_cases c : x = (s : Int)
    · simp only [if_pos c, cnt]; rw [cin_next s xs os (n + 1) hl']; omega
    · simp only [if_neg c, cnt]; rw [cin_next s xs os n hl']; omega
theorem cout_at (l : List Int) (d : Nat) : ∀ (s : Nat) (out : List ByteArray) (n i : Nat), s + d = 24 → 1 ≤ s → 2 * n = stp l (s - 1) → out.length = l.length → (h : i < l.length) →
    (cout l d s out n)[i]? = if (s : Int) ≤ l[i] ∧ l[i] ≤ 23 then some (bitText (numOf l l[i].toNat i) l[i].toNat) else out[i]? := by
  induction d with
  | zero =>
    intro s out n i hs _ _ _ h
    rw [if_neg (by omega)]; rfl
  | succ d ih =>
    intro s out n i hs h1 hn ho h
    have e := ih (s + 1) (cin s l out (2 * n)).1 (cin s l out (2 * n)).2 i (by omega) (by omega) (by
      rw [cin_next s l out _ ho.symm, hn, show s + 1 - 1 = (s - 1) + 1 from by omega]
      simp only [stp]; rw [show s - 1 + 1 = s from by omega]) (by rw [cin_length s l out _ ho.symm]) h
    simp only [cout]
    rw [e, cin_at s l out _ i ho.symm h, hn]
    by_cases c : l[i] = (s : Int)
    · rw [if_neg (by omega), if_pos c, if_pos (by omega), show l[i].toNat = s from by omega]; rfl
    · rw [if_neg c]
      by_cases c2 : ((s + 1 : Nat) : Int) ≤ l[i] ∧ l[i] ≤ 23
      · rw [if_pos c2, if_pos (by omega)]
      · rw [if_neg c2, if_neg (by omega)]
/-- A length, as a natural number. -/
def lenAt (l : List Int) (i : Nat) : Nat := (l.getD i 0).toNat
theorem cout_length (l : List Int) (d : Nat) : ∀ (s : Nat) (out : List ByteArray) (n : Nat), out.length = l.length → (cout l d s out n).length = l.length := by
  induction d with
  | zero => intro s out n h; exact h
  | succ d ih => intro s out n h; exact ih _ _ _ (cin_length s l out _ h.symm)
theorem codesP_length (l : List Int) : (codesP l).length = l.length := cout_length l 23 1 _ 0 (by simp)
theorem codesP_at (l : List Int) (hl : ∀ n ∈ l, 0 ≤ n ∧ n ≤ 23) (i : Nat) (h : i < l.length) :
    (codesP l)[i]'(by rw [codesP_length]; exact h) = if 1 ≤ lenAt l i then bitText (numOf l (lenAt l i) i) (lenAt l i) else ⟨#[]⟩ := by
  have e := cout_at l 23 1 (List.replicate l.length ⟨#[]⟩) 0 i (by omega) (by omega) rfl (by simp) h
  have hm := hl _ (List.getElem_mem h)
  have e2 : lenAt l i = l[i].toNat := by unfold lenAt; rw [getD_at h]
  rw [← Option.some.injEq, ← List.getElem?_eq_getElem]
  show (cout l 23 1 (List.replicate l.length ⟨#[]⟩) 0)[i]? = _
  rw [e, e2]
  by_cases c : 1 ≤ l[i]
  · rw [if_pos (by omega), if_pos (by omega)]
  · rw [if_neg (by omega), if_neg (by omega)]; simp [h]
theorem cnt_take_lt (l : List Int) (a : Nat) {i j : Nat} (hij : i < j) (h : i < l.length) (hi : l[i] = (a : Int)) : cnt a (l.take i) + 1 ≤ cnt a (l.take j) := by
  induction l generalizing i j with
  | nil => simp at h
  | cons x xs ih =>
    obtain ⟨j, rfl⟩ : ∃ j', j = j' + 1 := ⟨j - 1, by omega⟩
    cases i with
    | zero =>
      simp only [List.getElem_cons_zero] at hi
      simp [cnt, hi]
    | succ i =>
      simp only [List.getElem_cons_succ] at hi
      have := ih (i := i) (j := j) (by omega) (by simpa using h) hi
      simp only [List.take_succ_cons, cnt]; omega
theorem cnt_take_all (l : List Int) (a : Nat) {i : Nat} (h : i < l.length) (hi : l[i] = (a : Int)) : cnt a (l.take i) + 1 ≤ cnt a l := by
  have := cnt_take_lt l a (j := l.length) h h hi
  rwa [List.take_length] at this
theorem stp_grow (l : List Int) (d e : Nat) : (stp l d + cnt (d + 1) l) * 2 ^ (e + 1) ≤ stp l (d + e + 1) := by
  induction e with
  | zero => simp only [stp, Nat.add_zero, Nat.zero_add, Nat.pow_one]; omega
  | succ e ih =>
    have : stp l (d + (e + 1) + 1) = 2 * (stp l (d + e + 1) + cnt (d + (e + 1) + 1) l) := rfl
    rw [this, Nat.pow_succ, ← Nat.mul_assoc]
    omega
theorem roomTo_zero (l : List Int) : roomTo 0 l = 0 := by
  induction l with
  | nil => rfl
  | cons x xs ih => simp only [roomTo, ih]; rw [if_neg (by omega)]
theorem roomTo_succ (s : Nat) (l : List Int) : roomTo (s + 1) l = roomTo s l + cnt (s + 1) l * 2 ^ (23 - (s + 1)) := by
  induction l with
  | nil => simp [roomTo, cnt]
  | cons x xs ih =>
    simp only [roomTo, cnt, ih, Nat.add_mul]
    by_cases c : x = ((s + 1 : Nat) : Int)
    · rw [if_pos (by omega), if_neg (by omega), if_pos c, show x.toNat = s + 1 from by omega]; omega
    · by_cases c2 : 1 ≤ x ∧ x ≤ (s : Int)
      · rw [if_pos (by omega), if_pos c2, if_neg c]; omega
      · rw [if_neg (by omega), if_neg c2, if_neg c]; omega
theorem roomTo_mono (l : List Int) (s d : Nat) : roomTo s l ≤ roomTo (s + d) l := by
  induction d with
  | zero => exact Nat.le_refl _
  | succ d ih => rw [← Nat.add_assoc, roomTo_succ]; omega
theorem stp_room (l : List Int) (d : Nat) : d ≤ 22 → (stp l d + cnt (d + 1) l) * 2 ^ (22 - d) = roomTo (d + 1) l := by
  induction d with
  | zero =>
    intro _
    rw [roomTo_succ, roomTo_zero]; simp [stp]
  | succ d ih =>
    intro hd
    have e := ih (by omega)
    rw [roomTo_succ, ← e]
    simp only [stp]
    rw [show 22 - d = (22 - (d + 1)) + 1 from by omega, Nat.pow_succ, show 23 - (d + 1 + 1) = 22 - (d + 1) from by omega, Nat.add_mul]
    generalize 2 ^ (22 - (d + 1)) = P
    generalize stp l d + cnt (d + 1) l = Q
    rw [Nat.mul_comm 2 Q, Nat.mul_assoc, Nat.mul_comm 2 P]
theorem numOf_room (l : List Int) (a i : Nat) (ha : 1 ≤ a) (ha2 : a ≤ 23) (h : i < l.length) (hi : l[i] = (a : Int)) (hk : roomTo 23 l ≤ 2 ^ 23) : numOf l a i + 1 ≤ 2 ^ a := by
  have h1 := cnt_take_all l a h hi
  have h2 := stp_room l (a - 1) (by omega)
  rw [show a - 1 + 1 = a from by omega, show 22 - (a - 1) = 23 - a from by omega] at h2
  have h3 := roomTo_mono l a (23 - a)
  rw [show a + (23 - a) = 23 from by omega] at h3
  have h4 : (numOf l a i + 1) * 2 ^ (23 - a) ≤ 2 ^ a * 2 ^ (23 - a) := by
    rw [← Nat.pow_add, show a + (23 - a) = 23 from by omega]
    refine Nat.le_trans (Nat.mul_le_mul_right _ (show numOf l a i + 1 ≤ stp l (a - 1) + cnt a l by unfold numOf; omega)) ?_
    omega
  exact Nat.le_of_mul_le_mul_right h4 (Nat.two_pow_pos _)
theorem numOf_order (l : List Int) {a b i j : Nat} (ha : 1 ≤ a) (h : i < l.length) (hi : l[i] = (a : Int)) (hab : a < b ∨ a = b ∧ i < j) : (numOf l a i + 1) * 2 ^ (b - a) ≤ numOf l b j := by
  rcases hab with hab | ⟨rfl, hij⟩
  · have h1 := cnt_take_all l a h hi
    have h2 := stp_grow l (a - 1) (b - a - 1)
    rw [show a - 1 + 1 = a from by omega, show b - a - 1 + 1 = b - a from by omega, show a - 1 + (b - a - 1) + 1 = b - 1 from by omega] at h2
    refine Nat.le_trans (Nat.mul_le_mul_right _ (show numOf l a i + 1 ≤ stp l (a - 1) + cnt a l by unfold numOf; omega)) ?_
    unfold numOf; omega
  · have h1 := cnt_take_lt l a hij h hi
    rw [Nat.sub_self]; unfold numOf; omega
/-- The bytes of a number in so many bits, as bytes. -/
def bitBytes (n s : Nat) : List UInt8 := (List.range s).map fun i => UInt8.ofNat (48 + n / 2 ^ (s - 1 - i) % 2)
theorem bitText_data (n s : Nat) : (bitText n s).data.toList = bitBytes n s := by
  unfold bitText bitBytes bitNums
  rw [strOfNums_data, List.map_map]
  refine List.map_congr_left fun i _ => ?_
  simp only [Function.comp, bitNum]; rw [Int.toNat_natCast]
theorem bitText_size (n s : Nat) : (bitText n s).size = s := by unfold bitText; rw [strOfNums_size, bitNums_length]
theorem bitBytes_at (n s i : Nat) (h : i < s) : (bitBytes n s)[i]? = some (UInt8.ofNat (48 + n / 2 ^ (s - 1 - i) % 2)) := by simp [bitBytes, h]
theorem bit_inj {x y : Nat} (hx : x < 2) (hy : y < 2) (h : UInt8.ofNat (48 + x) = UInt8.ofNat (48 + y)) : x = y := by
  have e := congrArg UInt8.toNat h
  simp only [UInt8.toNat_ofNat'] at e
  omega
theorem same_bits {n m a : Nat} (hn : n < 2 ^ a) (hm : m < 2 ^ a) (h : ∀ i, i < a → n / 2 ^ i % 2 = m / 2 ^ i % 2) : n = m := by
  refine Nat.eq_of_testBit_eq fun i => ?_
  by_cases c : i < a
  · rw [Nat.testBit_eq_decide_div_mod_eq, Nat.testBit_eq_decide_div_mod_eq, h i c]
  · have e : 2 ^ a ≤ 2 ^ i := Nat.pow_le_pow_right (by decide) (by omega)
    rw [Nat.testBit_lt_two_pow (by omega), Nat.testBit_lt_two_pow (by omega)]
theorem prefix_bits {n m a b : Nat} (hab : a ≤ b) (hn : n < 2 ^ a) (hm : m < 2 ^ b) (h : (bitBytes m b).take a = bitBytes n a) : m / 2 ^ (b - a) = n := by
  refine same_bits (a := a) (Nat.div_lt_of_lt_mul (by rw [← Nat.pow_add, show b - a + a = b from by omega]; exact hm)) hn fun i hi => ?_
  have e := congrArg (fun l => l[a - 1 - i]?) h
  simp only [List.getElem?_take] at e
  rw [if_pos (by omega), bitBytes_at _ _ _ (by omega), bitBytes_at _ _ _ (by omega)] at e
  have e2 := bit_inj (Nat.mod_lt _ (by decide)) (Nat.mod_lt _ (by decide)) (Option.some.inj e)
  rw [show a - 1 - (a - 1 - i) = i from by omega, show b - 1 - (a - 1 - i) = (b - a) + i from by omega, Nat.pow_add, ← Nat.div_div_eq_div_mul] at e2
  exact e2
theorem bitBytes_cons (n s : Nat) : bitBytes n (s + 1) = UInt8.ofNat (48 + n / 2 ^ s % 2) :: bitBytes n s := by
  unfold bitBytes
  rw [List.range_succ_eq_map, List.map_cons, List.map_map]
  refine List.cons_eq_cons.2 ⟨by simp, List.map_congr_left fun i _ => ?_⟩
  simp only [Function.comp]
  rw [show s + 1 - 1 - (i + 1) = s - 1 - i from by omega]
theorem less_bits (s : Nat) : ∀ (n m : Nat), n % 2 ^ s < m % 2 ^ s → Op.bytesLess (bitBytes n s) (bitBytes m s) = true := by
  induction s with
  | zero => intro n m h; simp [Nat.mod_one] at h
  | succ s ih =>
    intro n m h
    rw [bitBytes_cons, bitBytes_cons]
    rw [Nat.pow_succ, Nat.mod_mul, Nat.mod_mul] at h
    have hn := Nat.mod_lt (n / 2 ^ s) (show 0 < 2 by decide)
    have hm := Nat.mod_lt (m / 2 ^ s) (show 0 < 2 by decide)
    have hn2 := Nat.mod_lt n (Nat.two_pow_pos s)
    have hm2 := Nat.mod_lt m (Nat.two_pow_pos s)
    generalize n / 2 ^ s % 2 = x at *
    generalize m / 2 ^ s % 2 = y at *
    simp only [Op.bytesLess, Bool.or_eq_true, Bool.and_eq_true, decide_eq_true_eq, beq_iff_eq]
    obtain rfl | rfl : x = 0 ∨ x = 1 := by omega
    · obtain rfl | rfl : y = 0 ∨ y = 1 := by omega
      · exact .inr ⟨rfl, ih n m (by omega)⟩
      · exact .inl (by decide)
    · obtain rfl | rfl : y = 0 ∨ y = 1 := by omega
      · exfalso; omega
      · exact .inr ⟨rfl, ih n m (by omega)⟩

theorem Ev.uniq {α : Type} {g : Nat → Option α} {r r' : α} (h : Ev g r) (h' : Ev g r') : r = r' := by
  obtain ⟨K, h⟩ := h
  obtain ⟨K', h'⟩ := h'
  have h1 := h (max K K') (by omega)
  have h2 := h' (max K K') (by omega)
  rw [h1] at h2
  exact Option.some.inj h2

theorem roomTo_le (s : Nat) (l : List Int) : roomTo s l ≤ l.length * 2 ^ 23 := by
  induction l with
  | nil => simp [roomTo]
  | cons x xs ih =>
    have : 2 ^ (23 - x.toNat) ≤ 2 ^ 23 := Nat.pow_le_pow_right (by decide) (by omega)
    simp only [roomTo, List.length_cons, Nat.add_mul]
    split <;> omega
theorem kraft_run (l : List Int) (hl : ∀ n ∈ l, 0 ≤ n ∧ n ≤ 23) (hn : l.length ≤ 24) (d : Nat) : ∀ (j R : Nat), j + d = l.length → R ≤ j * 2 ^ 23 →
    Ev (fun k => impl_kraft.l0 k (R : Int) l (l.length : Int) (j : Int)) ((R + roomTo 23 (l.drop j) : Nat) : Int) := by
  induction d with
  | zero =>
    intro j R hj _
    rw [List.drop_eq_nil_of_le (by omega)]
    refine Ev.step (f := fun _ => some (R : Int)) (fun k => ?_) (Ev.now _)
    simp only [impl_kraft.l0]
    rw [if_neg (by omega)]
  | succ d ih =>
    intro j R hj hR
    have hlt : j < l.length := by omega
    have hm := hl _ (List.getElem_mem hlt)
    rw [drop_cons hlt]
    by_cases h4 : l[j] > 0
    · have hp : 2 ^ (23 - l[j].toNat) ≤ 2 ^ 23 := Nat.pow_le_pow_right (by decide) (by omega)
      have hs := shl_at 1 l[j].toNat 23 (by omega) (by omega) (by omega)
      rw [show ((23 : Nat) : Int) - ((l[j].toNat : Nat) : Int) = 23 - l[j] from by omega] at hs
      have e := ih (j + 1) (R + 2 ^ (23 - l[j].toNat)) (by omega) (by omega)
      simp only [roomTo]
      rw [if_pos (by omega), ← Nat.add_assoc]
      refine Ev.step (fun k => ?_) e
      simp only [impl_kraft.l0]
      rw [if_pos (by omega), if_pos (by omega), if_pos (by omega), rdj, getD_at hlt, if_pos h4, if_pos (by rw [w64 (by omega) (by omega)]; omega), wj (n := l.length) hlt (by omega)]
      rw [show shl .i64 1 (wrap64 (23 - l[j])) = ((2 ^ (23 - l[j].toNat) : Nat) : Int) from by rw [← Nat.one_mul (2 ^ (23 - l[j].toNat)), ← hs]; rfl, w64 (by omega) (by omega)]
      rw [show (R : Int) + ((2 ^ (23 - l[j].toNat) : Nat) : Int) = ((R + 2 ^ (23 - l[j].toNat) : Nat) : Int) from by omega]
    · have e := ih (j + 1) R (by omega) (Nat.le_trans hR (Nat.mul_le_mul_right _ (Nat.le_succ j)))
      simp only [roomTo]
      rw [if_neg (by omega), Nat.zero_add]
      refine Ev.step (fun k => ?_) e
      simp only [impl_kraft.l0]
      rw [if_pos (by omega), if_pos (by omega), if_pos (by omega), rdj, getD_at hlt, if_neg h4, wj (n := l.length) hlt (by omega)]
theorem kraft_is (l : List Int) (hl : ∀ n ∈ l, 0 ≤ n ∧ n ≤ 23) (hn : l.length ≤ 24) : Ev (fun k => impl_kraft.f k l) ((roomTo 23 l : Nat) : Int) ∧ Ev (fun k => spec_l15Kraft.f k l) ((roomTo 23 l : Nat) : Int) := by
  have h := kraft_run l hl hn l.length 0 0 (by omega) (by omega)
  rw [Nat.zero_add, List.drop_zero] at h
  exact ⟨h, Ev.congr (fun k => kraft_same k 0 l l.length 0 hl) h⟩

/-- What the lengths come to, as both tell it. -/
theorem right_ev (l : List Int) (hn : l.length ≤ 1048576) : ∃ b, Ev (fun k => spec_l15Right.f k l) b ∧ Ev (fun k => impl_areRight.f k l) b ∧ (b = true → lenB l = true) := by
  cases hb : lenB l with
  | false =>
    refine ⟨false, ?_, ?_, fun h => by cases h⟩
    · unfold spec_l15Right.f
      refine Ev.bind (by have := l15Lengths_ev l hn; rwa [hb] at this) ?_
      exact Ev.congr (fun k => by simp) (Ev.now _)
    · exact Ev.congr (f := fun _ => some false) (fun k => by simp [impl_areRight.f, areLengths_eq, hb]) (Ev.now _)
  | true =>
    obtain ⟨r, h1, h2⟩ := kraft_both l ((lenB_iff l).1 hb).2 hn
    refine ⟨decide (r ≤ 8388608), ?_, ?_, fun _ => rfl⟩
    · unfold spec_l15Right.f
      refine Ev.bind (by have := l15Lengths_ev l hn; rwa [hb] at this) ?_
      simp only [if_true]
      exact Ev.bind h2 (Ev.now _)
    · refine Ev.congr (f := fun k => (impl_kraft.f k l).bind fun t => some (decide (t ≤ 8388608))) (fun k => by simp [impl_areRight.f, areLengths_eq, hb]) (Ev.bind h1 (Ev.now _))

--IMPORT Derived.Lib.Split
theorem dsize (c : ByteArray) : c.data.toList.length = c.size := Array.length_toList
theorem bt_at_nat (s : ByteArray) (i : Nat) (h : i < s.size) : bt s (i : Int) = ((s.data.toList[i]'(by rw [dsize]; exact h)).toNat : Int) := by
  unfold bt
  rw [dif_pos (by simpa using h)]
  rfl
def IsBit (x : UInt8) : Prop := x = 48 ∨ x = 49
instance (x : UInt8) : Decidable (IsBit x) := by unfold IsBit; infer_instance
theorem isBit_iff (x : UInt8) : ([48, 49] : List UInt8).contains x = true ↔ IsBit x := by
  unfold IsBit; simp
theorem dropWhile_nil {p : UInt8 → Bool} : ∀ l : List UInt8, l.dropWhile p = [] ↔ ∀ x ∈ l, p x = true
  | [] => by simp
  | x :: xs => by
    rw [List.dropWhile_cons]
    by_cases h : p x = true
    · rw [if_pos h, dropWhile_nil xs]; simp [h]
    · rw [if_neg h]; simp [h]
theorem trim_bits (l : List UInt8) : (Lib.trimS l [48, 49]).isEmpty = true ↔ ∀ x ∈ l, IsBit x := by
  rw [List.isEmpty_iff]
  unfold Lib.trimS Lib.trimLeftS Lib.trimRightS
  rw [dropWhile_nil]
  constructor
  · intro h
    -- what is left behind the trim on the right is all bits, and ends with none
    by_cases e : l.reverse.dropWhile (fun x => ([48, 49] : List UInt8).contains x) = []
    · intro x hx
      have := (dropWhile_nil l.reverse).1 e x (by simpa using hx)
      exact (isBit_iff x).1 this
    · exfalso
      have h1 := h ((l.reverse.dropWhile (fun x => ([48, 49] : List UInt8).contains x)).head e) (by simp)
      have h2 := List.head_dropWhile_not (fun x => ([48, 49] : List UInt8).contains x) e
      rw [h1] at h2
      simp at h2
  · intro h
    have e : l.reverse.dropWhile (fun x => ([48, 49] : List UInt8).contains x) = [] :=
      (dropWhile_nil l.reverse).2 fun x hx => (isBit_iff x).2 (h x (by simpa using hx))
    rw [e]; simp
theorem bitText_l (s : ByteArray) (hn : s.size ≤ 1048576) (d : Nat) : ∀ (j : Nat), j + d = s.size → 
    ((∀ x ∈ s.data.toList.drop j, IsBit x) → Ev (fun k => spec_l15BitText.l0 k s (j : Int)) (decide ((s.size : Int) ≤ 4000))) ∧ (¬ (∀ x ∈ s.data.toList.drop j, IsBit x) → Ev (fun k => spec_l15BitText.l0 k s (j : Int)) false) := by
  induction d with
  | zero =>
    intro j hj
    rw [List.drop_eq_nil_of_le (by rw [dsize]; omega)]
    refine ⟨fun _ => Ev.step (f := fun _ => some (decide ((s.size : Int) ≤ 4000))) (fun k => ?_) (Ev.now _), fun h => absurd (fun x hx => absurd hx (by simp)) h⟩
    simp only [spec_l15BitText.l0]; rw [if_neg (by omega)]
  | succ d ih =>
    intro j hj
    have hlt : j < s.size := by omega
    have hlt2 : j < s.data.toList.length := by rw [dsize]; exact hlt
    obtain ⟨i1, i2⟩ := ih (j + 1) (by omega)
    rw [List.drop_eq_getElem_cons hlt2]
    have hb := bt_at_nat s j hlt
    by_cases c : IsBit s.data.toList[j]
    · have step : ∀ k, spec_l15BitText.l0 (k + 1) s (j : Int) = spec_l15BitText.l0 k s ((j + 1 : Nat) : Int) := by
        intro k
        simp only [spec_l15BitText.l0]
        rw [if_pos (by omega), if_pos (by omega), hb, wj (n := s.size) hlt (by omega)]
        rcases c with c | c
        · rw [c, if_pos (by decide)]
        · rw [c, if_neg (by decide), if_pos (by decide)]
      refine ⟨fun h => Ev.step step (i1 fun x hx => h x (List.mem_cons_of_mem _ hx)), fun h => Ev.step step (i2 fun h2 => h ?_)⟩
      intro x hx
      rcases List.mem_cons.1 hx with hx | hx
      · rw [hx]; exact c
      · exact h2 x hx
    · refine ⟨fun h => absurd (h _ List.mem_cons_self) c, fun _ => Ev.step (f := fun _ => some false) (fun k => ?_) (Ev.now _)⟩
      simp only [spec_l15BitText.l0]
      rw [if_pos (by omega), if_pos (by omega), hb]
      have n48 : ¬ ((s.data.toList[j].toNat : Int) = 48) := fun e => c (.inl (UInt8.toNat_inj.1 (by show s.data.toList[j].toNat = 48; omega)))
      have n49 : ¬ ((s.data.toList[j].toNat : Int) = 49) := fun e => c (.inr (UInt8.toNat_inj.1 (by show s.data.toList[j].toNat = 49; omega)))
      rw [if_neg n48, if_neg n49]
theorem bitText_both (s : ByteArray) (hn : s.size ≤ 1048576) : ∃ b, Ev (fun k => spec_l15BitText.f k s) b ∧ impl_areBits.f s = some b := by
  obtain ⟨h1, h2⟩ := bitText_l s hn s.size 0 (by omega)
  rw [List.drop_zero] at h1 h2
  have ht := trim_bits s.data.toList
  unfold impl_areBits.f
  by_cases c : ∀ x ∈ s.data.toList, IsBit x
  · refine ⟨_, h1 c, ?_⟩
    by_cases c2 : (s.size : Int) ≤ 4000
    · rw [if_pos c2, ht.2 c, decide_eq_true c2]
    · rw [if_neg c2, decide_eq_false c2]
  · refine ⟨_, h2 c, ?_⟩
    by_cases c2 : (s.size : Int) ≤ 4000
    · rw [if_pos c2, Bool.eq_false_iff.2 (fun e => c (ht.1 e))]
    · rw [if_neg c2]
theorem beg_iff (b c : ByteArray) : decBeg b c = true ↔ c.toList ≠ [] ∧ c.size ≤ b.size ∧ (b.extract 0 c.size).toList = c.toList := by
  unfold decBeg Lib.hasPrefix
  rw [Bool.and_eq_true, List.isPrefixOf_iff_prefix, List.prefix_iff_eq_take, Bool.not_eq_true', List.isEmpty_eq_false_iff, ByteArray.toList_eq, ByteArray.toList_eq, Lib.extract_from_zero, dsize]
  refine and_congr_right fun _ => ⟨fun h => ⟨?_, h.symm⟩, fun h => h.2.symm⟩
  have := congrArg List.length h
  rw [List.length_take, dsize, dsize] at this
  omega
theorem fnd_ge (b : ByteArray) : ∀ (cs : List ByteArray) (i : Nat), decFnd b cs i = -1 ∨ ∃ j, i ≤ j ∧ j < i + cs.length ∧ decFnd b cs i = (j : Int) ∧ decBeg b (cs.getD (j - i) ByteArray.empty) = true
  | [], _ => .inl rfl
  | c :: cs, i => by
    unfold decFnd
    by_cases h : decBeg b c = true
    · rw [if_pos h]
      exact .inr ⟨i, Nat.le_refl _, by simp, rfl, by simpa using h⟩
    · rw [if_neg h]
      have e : ((i : Int) + 1) = ((i + 1 : Nat) : Int) := by omega
      rw [e]
      rcases fnd_ge b cs (i + 1) with h2 | ⟨j, h2, h3, h4, h5⟩
      · exact .inl h2
      · refine .inr ⟨j, by omega, by simp; omega, h4, ?_⟩
        rw [show j - i = (j - (i + 1)) + 1 from by omega]
        simpa using h5
theorem scan_l (bits : ByteArray) (cs : List ByteArray) (out : List Int) (hcs : cs.length ≤ 100) (ho : out.length ≤ 200) (R : List Int × Bool)
    (H1 : decFnd bits cs 0 < 0 → R = ([], false)) (H2 : 0 ≤ decFnd bits cs 0 → (out.length : Int) = 200 → R = ([], false))
    (H3 : 0 ≤ decFnd bits cs 0 → ¬ (out.length : Int) = 200 → Ev (fun k => spec_DecodeBits.l0 k (bits.extract (cs.getD (decFnd bits cs 0).toNat ByteArray.empty).size bits.size) cs (out ++ [decFnd bits cs 0])) R) (d : Nat) :
    ∀ (j : Nat), j + d = cs.length → decFnd bits (cs.drop j) j = decFnd bits cs 0 → Ev (fun k => spec_DecodeBits.l1 k bits cs out (-1) cs (cs.length : Int) (j : Int)) R := by
  induction d with
  | zero =>
    intro j hj he
    rw [List.drop_eq_nil_of_le (by omega)] at he
    have hr := H1 (by rw [← he]; show (-1 : Int) < 0; decide)
    refine Ev.step (f := fun _ => some R) (fun k => ?_) (Ev.now _)
    simp only [spec_DecodeBits.l1]
    rw [if_neg (by omega), if_pos (by decide), hr]
  | succ d ih =>
    intro j hj he
    have hlt : j < cs.length := by omega
    have hrd : rdOf ByteArray.empty cs (j : Int) = cs[j] := getD_at hlt _
    rw [List.drop_eq_getElem_cons hlt] at he
    have hi := ih (j + 1) (by omega)
    rw [show decFnd bits (cs[j] :: cs.drop (j + 1)) (j : Int) = if decBeg bits cs[j] = true then (j : Int) else decFnd bits (cs.drop (j + 1)) ((j : Int) + 1) from rfl] at he
    have hb := beg_iff bits cs[j]
    by_cases c : decBeg bits cs[j] = true
    · rw [if_pos c] at he
      obtain ⟨g1, g2, g3⟩ := hb.1 c
      by_cases c2 : (out.length : Int) = 200
      · have hr := H2 (by omega) c2
        refine Ev.step (f := fun _ => some R) (fun k => ?_) (Ev.now _)
        simp only [spec_DecodeBits.l1, hrd, Int.toNat_natCast]
        rw [if_pos (by omega), if_pos (by omega), if_pos (by omega), if_neg g1, if_pos (by omega), if_pos (by omega), if_pos g3, if_neg (by omega), if_pos c2, hr]
      · have g := H3 (by omega) c2
        rw [← he, Int.toNat_natCast, getD_at hlt] at g
        refine Ev.step (fun k => ?_) g
        simp only [spec_DecodeBits.l1, hrd, Int.toNat_natCast]
        rw [if_pos (by omega), if_pos (by omega), if_pos (by omega), if_neg g1, if_pos (by omega), if_pos (by omega), if_pos g3, if_neg (by omega), if_neg c2, if_pos (by omega), if_pos (by omega), if_pos (by omega), if_pos (by omega)]
    · rw [if_neg c] at he
      have g := hi (by rw [← he, show ((j + 1 : Nat) : Int) = (j : Int) + 1 from by omega])
      refine Ev.step (fun k => ?_) g
      simp only [spec_DecodeBits.l1, hrd, Int.toNat_natCast]
      rw [if_pos (by omega), if_pos (by omega), if_pos (by omega), wj (n := cs.length) hlt (by omega)]
      by_cases g1 : cs[j].toList = []
      · rw [if_pos g1]
      · rw [if_neg g1]
        by_cases g2 : (cs[j].size : Int) ≤ (bits.size : Int)
        · rw [if_pos g2, if_pos (by omega)]
          by_cases g3 : (bits.extract 0 cs[j].size).toList = cs[j].toList
          · exact absurd (hb.2 ⟨g1, by omega, g3⟩) c
          · rw [if_neg g3]
        · rw [if_neg g2]
theorem decode_l (cs : List ByteArray) (hcs : cs.length ≤ 100) (m : Nat) : ∀ (bits : ByteArray) (out : List Int), bits.size ≤ m → out.length ≤ 200 →
    ∃ R : List Int × Bool, Ev (fun k => spec_DecodeBits.l0 k bits cs out) R ∧ Ev (fun k => impl_DecodeBits.l0 k cs bits out) R ∧ R.1.length ≤ 200 := by
  induction m with
  | zero =>
    intro bits out hb ho
    have e : bits.toList = [] := by
      rw [ByteArray.toList_eq]; exact List.eq_nil_of_length_eq_zero (by rw [dsize]; omega)
    refine ⟨(out, true), Ev.step (f := fun _ => some (out, true)) (fun k => ?_) (Ev.now _), Ev.step (f := fun _ => some (out, true)) (fun k => ?_) (Ev.now _), ho⟩
    · simp only [spec_DecodeBits.l0]; rw [if_pos e]
    · simp only [impl_DecodeBits.l0]; rw [if_pos e]
  | succ m ih =>
    intro bits out hb ho
    by_cases e : bits.toList = []
    · refine ⟨(out, true), Ev.step (f := fun _ => some (out, true)) (fun k => ?_) (Ev.now _), Ev.step (f := fun _ => some (out, true)) (fun k => ?_) (Ev.now _), ho⟩
      · simp only [spec_DecodeBits.l0]; rw [if_pos e]
      · simp only [impl_DecodeBits.l0]; rw [if_pos e]
    · have spec : ∀ R, Ev (fun k => spec_DecodeBits.l1 k bits cs out (-1) cs (cs.length : Int) ((0 : Nat) : Int)) R → Ev (fun k => spec_DecodeBits.l0 k bits cs out) R := fun R h =>
        Ev.step (fun k => by simp only [spec_DecodeBits.l0]; rw [if_neg e]; rfl) h
      rcases fnd_ge bits cs 0 with h | ⟨j, _, h3, h4, h5⟩
      · have h : decFnd bits cs 0 = -1 := h
        refine ⟨([], false), spec _ (scan_l bits cs out hcs ho _ (fun _ => rfl) (fun h2 => by omega) (fun h2 => by omega) cs.length 0 (by omega) rfl), Ev.step (f := fun _ => some ([], false)) (fun k => ?_) (Ev.now _), by simp⟩
        simp only [impl_DecodeBits.l0, h]
        rw [if_neg e, if_pos (by omega)]
      · have h4 : decFnd bits cs 0 = (j : Int) := h4
        have hj : j < cs.length := by omega
        rw [Nat.sub_zero, getD_at hj] at h5
        obtain ⟨g1, g2, g3⟩ := (beg_iff bits cs[j]).1 h5
        have g4 : 1 ≤ cs[j].size := by
          rcases Nat.eq_zero_or_pos cs[j].size with z | z
          · exact absurd (by rw [ByteArray.toList_eq]; exact List.eq_nil_of_length_eq_zero (by rw [dsize]; exact z)) g1
          · exact z
        by_cases c2 : (out.length : Int) = 200
        · refine ⟨([], false), spec _ (scan_l bits cs out hcs ho _ (fun _ => rfl) (fun _ _ => rfl) (fun _ h2 => absurd c2 h2) cs.length 0 (by omega) rfl), Ev.step (f := fun _ => some ([], false)) (fun k => ?_) (Ev.now _), by simp⟩
          simp only [impl_DecodeBits.l0, h4]
          rw [if_neg e, if_neg (by omega), if_pos c2]
        · have hs : (bits.extract cs[j].size bits.size).size ≤ m := by
            rw [← dsize, Lib.extract_data, List.length_take, List.length_drop, dsize]; omega
          obtain ⟨R, r1, r2, r3⟩ := ih (bits.extract cs[j].size bits.size) (out ++ [(j : Int)]) hs (by simp; omega)
          refine ⟨R, spec _ (scan_l bits cs out hcs ho _ (fun h2 => by omega) (fun _ h2 => absurd h2 c2) (fun _ _ => ?_) cs.length 0 (by omega) rfl), Ev.step (fun k => ?_) r2, r3⟩
          · rw [h4, Int.toNat_natCast, getD_at hj]; exact r1
          · have hrd : rdOf ByteArray.empty cs (j : Int) = cs[j] := getD_at hj _
            simp only [impl_DecodeBits.l0, h4, hrd]
            rw [if_neg e, if_neg (by omega), if_neg c2, if_pos (by omega), if_pos (by omega), if_pos g2]
theorem DecodeBits_both (l : List Int) (s : ByteArray) (hn : l.length ≤ 1048576) (hs : s.size ≤ 1048576) : ∃ r : List Int × Bool, Ev (fun k => spec_DecodeBits.f k l s) r ∧ Ev (fun k => impl_DecodeBits.f k l s) r ∧ r.1.length ≤ 1048576 := by
  obtain ⟨b, h1, h2, h3⟩ := right_ev l hn
  obtain ⟨u, u1, u2⟩ := bitText_both s hs
  have sj : Ev (fun k => spec_DecodeBits.j0 k l s true) ([], false) :=
    Ev.step (f := fun _ => some ([], false)) (fun k => by simp [spec_DecodeBits.j0]) (Ev.now _)
  cases b with
  | false =>
    refine ⟨([], false), ?_, ?_, by simp⟩
    · unfold spec_DecodeBits.f; exact Ev.bind h1 (Ev.congr (fun k => by rw [if_neg (by simp)]) sj)
    · unfold impl_DecodeBits.f; exact Ev.bind h2 (Ev.congr (f := fun _ => some ([], false)) (fun k => by simp) (Ev.now _))
  | true =>
    cases u with
    | false =>
      refine ⟨([], false), ?_, ?_, by simp⟩
      · unfold spec_DecodeBits.f
        refine Ev.bind h1 ?_
        simp only [if_true]
        exact Ev.bind u1 sj
      · unfold impl_DecodeBits.f
        refine Ev.bind h2 (Ev.congr (f := fun _ => some ([], false)) (fun k => ?_) (Ev.now _))
        rw [if_pos rfl, u2]; simp
    | true =>
      obtain ⟨hl, hm⟩ := (lenB_iff l).1 (h3 rfl)
      obtain ⟨c1, c2⟩ := codes_ev l (by omega)
      have hc : (codesP l).length ≤ 100 := by
        have : (codesP l).length = l.length := codesP_length l
        omega
      obtain ⟨R, r1, r2, r3⟩ := decode_l (codesP l) hc s.size s [] (Nat.le_refl _) (by simp)
      refine ⟨R, ?_, ?_, by omega⟩
      · unfold spec_DecodeBits.f
        refine Ev.bind h1 ?_
        simp only [if_true]
        refine Ev.bind u1 ?_
        refine Ev.step (f := fun k => (spec_l15Codes.f k l).bind fun t119 => spec_DecodeBits.l0 k s t119 []) (fun k => by simp [spec_DecodeBits.j0]) ?_
        exact Ev.bind c1 r1
      · unfold impl_DecodeBits.f
        refine Ev.bind h2 ?_
        simp only [if_true, u2, Option.bind_some]
        exact Ev.bind c2 r2

theorem bapp (acc : List UInt8) (c : ByteArray) : (⟨acc.toArray⟩ : ByteArray) ++ c = ⟨(acc ++ c.data.toList).toArray⟩ := by
  apply ByteArray.ext
  simp
theorem bsize (acc : List UInt8) : (⟨acc.toArray⟩ : ByteArray).size = acc.length := by simp [ByteArray.size]
theorem code_size (l : List Int) (hm : ∀ n ∈ l, 0 ≤ n ∧ n ≤ 23) (i : Nat) (h : i < (codesP l).length) : ((codesP l).getD i ByteArray.empty).size ≤ 23 := by
  rw [codesP_length] at h
  have hx := hm _ (List.getElem_mem h)
  rw [getD_at (by rw [codesP_length]; exact h), codesP_at l hm i h]
  split
  · rw [bitText_size]; unfold lenAt; rw [getD_at h]; omega
  · show 0 ≤ 23; omega
def EncOK (cs : List ByteArray) (acc : List UInt8) (l : List Int) (r : ByteArray × Bool) : Prop :=
  r.1.size ≤ 4000 ∧ (r.2 = true → (∀ i ∈ l, 0 ≤ i ∧ i.toNat < cs.length ∧ (cs.getD i.toNat ByteArray.empty).toList ≠ []) ∧ r.1.data.toList = acc ++ l.flatMap fun i => (cs.getD i.toNat ByteArray.empty).data.toList)
theorem EncOK.no (cs : List ByteArray) (acc : List UInt8) (l : List Int) : EncOK cs acc l (⟨#[]⟩, false) := ⟨Nat.zero_le _, fun h => absurd h (by simp)⟩
theorem encode_l (l0 l1 : List Int) (hm : ∀ n ∈ l0, 0 ≤ n ∧ n ≤ 23) (h0 : l0.length ≤ 24) (hn : l1.length ≤ 200) (d : Nat) : ∀ (j : Nat) (acc : List UInt8), j + d = l1.length → acc.length ≤ 23 * j →
    ∃ r : ByteArray × Bool, Ev (fun k => spec_EncodeBits.l0 k (codesP l0) ⟨acc.toArray⟩ l1 (l1.length : Int) (j : Int)) r ∧ Ev (fun k => impl_EncodeBits.l0 k l0 (codesP l0) acc l1 (j : Int)) r ∧ EncOK (codesP l0) acc (l1.drop j) r := by
  induction d with
  | zero =>
    intro j acc hj ha
    by_cases c : (acc.length : Int) > 4000
    · refine ⟨(⟨#[]⟩, false), Ev.step (f := fun _ => some (⟨#[]⟩, false)) (fun k => ?_) (Ev.now _), Ev.step (f := fun _ => some (⟨#[]⟩, false)) (fun k => ?_) (Ev.now _), EncOK.no _ _ _⟩
      · simp only [spec_EncodeBits.l0, bsize]; rw [if_neg (by omega), if_pos c]
      · simp only [impl_EncodeBits.l0]; rw [if_neg (by omega), if_pos c]
    · refine ⟨(⟨acc.toArray⟩, true), Ev.step (f := fun _ => some (⟨acc.toArray⟩, true)) (fun k => ?_) (Ev.now _), Ev.step (f := fun _ => some (⟨acc.toArray⟩, true)) (fun k => ?_) (Ev.now _), by rw [bsize]; omega, fun _ => by rw [List.drop_of_length_le (by omega)]; simp⟩
      · simp only [spec_EncodeBits.l0, bsize]; rw [if_neg (by omega), if_neg c]
      · simp only [impl_EncodeBits.l0]; rw [if_neg (by omega), if_neg c]
  | succ d ih =>
    intro j acc hj ha
    have hlt : j < l1.length := by omega
    have cl : (codesP l0).length = l0.length := codesP_length l0
    by_cases c : 0 ≤ l1[j] ∧ l1[j] ≤ (l0.length : Int) - 1
    · have ci : l1[j].toNat < (codesP l0).length := by rw [cl]; omega
      have hsz := code_size l0 hm _ ci
      have hrd : rdOf ByteArray.empty (codesP l0) l1[j] = (codesP l0).getD l1[j].toNat ByteArray.empty := rfl
      by_cases ce : ((codesP l0).getD l1[j].toNat ByteArray.empty).toList = []
      · refine ⟨(⟨#[]⟩, false), Ev.step (f := fun _ => some (⟨#[]⟩, false)) (fun k => ?_) (Ev.now _), Ev.step (f := fun _ => some (⟨#[]⟩, false)) (fun k => ?_) (Ev.now _), EncOK.no _ _ _⟩
        · simp only [spec_EncodeBits.l0, cl]
          rw [if_pos (by omega), if_pos (by omega), if_pos (by omega), rdj, getD_at hlt, l1In_eq, w64 (by omega) (by omega), decide_eq_true c]
          simp only [Option.bind_some, if_true]
          rw [if_pos c.1, if_pos (by omega), hrd, if_pos ce]
        · simp only [impl_EncodeBits.l0, cl]
          rw [if_pos (by omega), if_pos (by omega), rdj, getD_at hlt, within_eq, w64 (by omega) (by omega), decide_eq_true c]
          simp only [Option.bind_some, if_true]
          rw [if_pos c.1, if_pos (by omega), hrd, if_pos ce]
      · have hsz2 : ((codesP l0).getD l1[j].toNat ByteArray.empty).data.toList.length ≤ 23 := by
          have : ((codesP l0).getD l1[j].toNat ByteArray.empty).data.toList.length = ((codesP l0).getD l1[j].toNat ByteArray.empty).size := dsize _
          omega
        obtain ⟨r, g1, g2, g3, g4⟩ := ih (j + 1) (acc ++ ((codesP l0).getD l1[j].toNat ByteArray.empty).data.toList) (by omega) (by rw [List.length_append]; omega)
        refine ⟨r, Ev.step (fun k => ?_) g1, Ev.step (fun k => ?_) g2, g3, fun hr => ?_⟩
        rotate_left 2
        · obtain ⟨g5, g6⟩ := g4 hr
          rw [List.drop_eq_getElem_cons hlt]
          refine ⟨fun i hi => ?_, by rw [g6, List.flatMap_cons, List.append_assoc]⟩
          rcases List.mem_cons.1 hi with e | e
          · subst e; exact ⟨c.1, ci, ce⟩
          · exact g5 i e
        · simp only [spec_EncodeBits.l0, cl]
          rw [if_pos (by omega), if_pos (by omega), if_pos (by omega), rdj, getD_at hlt, l1In_eq, w64 (x := (l0.length : Int) - 1) (by omega) (by omega), decide_eq_true c]
          simp only [Option.bind_some, if_true]
          rw [if_pos c.1, if_pos (by omega), hrd, if_neg ce, bsize, if_pos (by omega), bapp, wj (n := l1.length) hlt (by omega)]
        · simp only [impl_EncodeBits.l0, cl]
          rw [if_pos (by omega), if_pos (by omega), rdj, getD_at hlt, within_eq, w64 (x := (l0.length : Int) - 1) (by omega) (by omega), decide_eq_true c]
          simp only [Option.bind_some, if_true]
          rw [if_pos c.1, if_pos (by omega), hrd, if_neg ce, if_pos (by omega), wj (n := l1.length) hlt (by omega)]
    · refine ⟨(⟨#[]⟩, false), Ev.step (f := fun _ => some (⟨#[]⟩, false)) (fun k => ?_) (Ev.now _), Ev.step (f := fun _ => some (⟨#[]⟩, false)) (fun k => ?_) (Ev.now _), EncOK.no _ _ _⟩
      · simp only [spec_EncodeBits.l0, cl]
        rw [if_pos (by omega), if_pos (by omega), if_pos (by omega), rdj, getD_at hlt, l1In_eq, w64 (by omega) (by omega), decide_eq_false c]
        simp
      · simp only [impl_EncodeBits.l0, cl]
        rw [if_pos (by omega), if_pos (by omega), rdj, getD_at hlt, within_eq, w64 (by omega) (by omega), decide_eq_false c]
        simp
theorem right_ev2 (l : List Int) (hn : l.length ≤ 1048576) : ∃ b, Ev (fun k => spec_l15Right.f k l) b ∧ Ev (fun k => impl_areRight.f k l) b ∧ (b = true → lenB l = true) ∧ (b = true → roomTo 23 l ≤ 2 ^ 23) := by
  obtain ⟨b, h1, h2, h3⟩ := right_ev l hn
  refine ⟨b, h1, h2, h3, fun hb => ?_⟩
  obtain ⟨hl, hm⟩ := (lenB_iff l).1 (h3 hb)
  have h4 : Ev (fun k => impl_areRight.f k l) (decide (((roomTo 23 l : Nat) : Int) ≤ 8388608)) :=
    Ev.congr (f := fun k => (impl_kraft.f k l).bind fun t => some (decide (t ≤ 8388608))) (fun k => by simp [impl_areRight.f, areLengths_eq, h3 hb]) (Ev.bind (kraft_is l hm (by omega)).1 (Ev.now _))
  have e := Ev.uniq h2 h4
  rw [hb] at e
  have := of_decide_eq_true e.symm
  omega
theorem EncodeBits_both (l0 l1 : List Int) (hn0 : l0.length ≤ 1048576) (hn : l1.length ≤ 1048576) : ∃ r : ByteArray × Bool, Ev (fun k => spec_EncodeBits.f k l0 l1) r ∧ Ev (fun k => impl_EncodeBits.f k l0 l1) r ∧ r.1.size ≤ 4000 ∧ (r.2 = true → lenB l0 = true ∧ roomTo 23 l0 ≤ 2 ^ 23 ∧ l1.length ≤ 200 ∧ EncOK (codesP l0) [] l1 r) := by
  obtain ⟨b, h1, h2, h3, h4⟩ := right_ev2 l0 hn0
  have sj : Ev (fun k => spec_EncodeBits.j0 k l0 l1 true) (⟨#[]⟩, false) :=
    Ev.step (f := fun _ => some (⟨#[]⟩, false)) (fun k => by simp [spec_EncodeBits.j0]) (Ev.now _)
  cases b with
  | false =>
    refine ⟨(⟨#[]⟩, false), ?_, ?_, Nat.zero_le _, fun h => absurd h (by simp)⟩
    · unfold spec_EncodeBits.f; refine Ev.bind h1 (Ev.congr (fun k => ?_) sj); simp
    · unfold impl_EncodeBits.f; exact Ev.bind h2 (Ev.congr (f := fun _ => some (⟨#[]⟩, false)) (fun k => by simp) (Ev.now _))
  | true =>
    obtain ⟨hl, hm⟩ := (lenB_iff l0).1 (h3 rfl)
    obtain ⟨c1, c2⟩ := codes_ev l0 (by omega)
    by_cases c : (l1.length : Int) > 200
    · refine ⟨(⟨#[]⟩, false), ?_, ?_, Nat.zero_le _, fun h => absurd h (by simp)⟩
      · unfold spec_EncodeBits.f; refine Ev.bind h1 (Ev.congr (fun k => ?_) sj); rw [if_pos rfl, decide_eq_true c]
      · unfold impl_EncodeBits.f; exact Ev.bind h2 (Ev.congr (f := fun _ => some (⟨#[]⟩, false)) (fun k => by rw [if_pos rfl, if_pos c]) (Ev.now _))
    · obtain ⟨r, g1, g2, g3⟩ := encode_l l0 l1 hm (by omega) (by omega) l1.length 0 [] (by omega) (by simp)
      refine ⟨r, ?_, ?_, g3.1, fun _ => ⟨h3 rfl, h4 rfl, by omega, by simpa using g3⟩⟩
      · unfold spec_EncodeBits.f
        refine Ev.bind h1 ?_
        simp only [if_true, decide_eq_false c]
        refine Ev.step (f := fun k => (spec_l15Codes.f k l0).bind fun t125 => spec_EncodeBits.l0 k t125 ⟨#[]⟩ l1 (l1.length : Int) 0) (fun k => by simp [spec_EncodeBits.j0]) ?_
        exact Ev.bind c1 g1
      · unfold impl_EncodeBits.f
        refine Ev.bind h2 ?_
        simp only [if_true, if_neg c]
        exact Ev.bind c2 g2

/-- What the law asks of codes. -/
structure CodesGood (l : List Int) (c : List ByteArray) : Prop where
  len : c.length ≤ l.length
  small : c.length ≤ 1048576
  size : ∀ i, i < c.length → ((c.getD i ByteArray.empty).size : Int) = l.getD i 0
  pre : ∀ i j, i < c.length → j < c.length → i ≠ j → (c.getD i ByteArray.empty).toList ≠ [] → (c.getD i ByteArray.empty).size ≤ (c.getD j ByteArray.empty).size →
    ((c.getD j ByteArray.empty).extract 0 (c.getD i ByteArray.empty).size).toList ≠ (c.getD i ByteArray.empty).toList
  less : ∀ i j, j < c.length → i < j → (c.getD i ByteArray.empty).toList ≠ [] → (c.getD i ByteArray.empty).size = (c.getD j ByteArray.empty).size →
    Op.bytesLess (c.getD i ByteArray.empty).toList (c.getD j ByteArray.empty).toList = true
theorem CodesGood.nil (l : List Int) : CodesGood l [] := ⟨by simp, by simp, fun i h => absurd h (by simp), fun i j h => absurd h (by simp), fun i j h => absurd h (by simp)⟩
theorem CodesGood.codes (l : List Int) (hm : ∀ n ∈ l, 0 ≤ n ∧ n ≤ 23) (hn : l.length ≤ 24) (hk : roomTo 23 l ≤ 2 ^ 23) : CodesGood l (codesP l) := by
  have at_ : ∀ i, i < l.length → (codesP l).getD i ByteArray.empty = if 1 ≤ lenAt l i then bitText (numOf l (lenAt l i) i) (lenAt l i) else ⟨#[]⟩ := fun i h => by
    rw [getD_at (by rw [codesP_length]; exact h)]; exact codesP_at l hm i h
  have la : ∀ i (h : i < l.length), (lenAt l i : Int) = l[i] ∧ lenAt l i ≤ 23 := fun i h => by
    have := hm _ (List.getElem_mem h)
    unfold lenAt; rw [getD_at h]; omega
  have sz : ∀ i, i < l.length → ((codesP l).getD i ByteArray.empty).size = lenAt l i := fun i h => by
    rw [at_ i h]
    split
    · exact bitText_size _ _
    · have : lenAt l i = 0 := by omega
      rw [this]; rfl
  have one : ∀ i, i < l.length → ((codesP l).getD i ByteArray.empty).toList ≠ [] → 1 ≤ lenAt l i := fun i h hne => by
    rw [at_ i h] at hne
    by_cases c : 1 ≤ lenAt l i
    · exact c
    · rw [if_neg c] at hne; exact absurd (by rw [ByteArray.toList_eq]) hne
  have room : ∀ i (h : i < l.length), 1 ≤ lenAt l i → numOf l (lenAt l i) i < 2 ^ lenAt l i := fun i h h1 => by
    have := numOf_room l (lenAt l i) i h1 (la i h).2 h (la i h).1.symm hk
    omega
  refine ⟨by rw [codesP_length]; exact Nat.le_refl _, by rw [codesP_length]; omega, fun i h => ?_, fun i j hi hj hij hne hle => ?_, fun i j hj hij hne heq => ?_⟩
  · rw [codesP_length] at h
    rw [sz i h, getD_at h, (la i h).1]
  · rw [codesP_length] at hi hj
    have h1 := one i hi hne
    rw [sz i hi, sz j hj] at hle
    rw [sz i hi, at_ i hi, at_ j hj, if_pos h1, if_pos (by omega), ByteArray.toList_eq, ByteArray.toList_eq, Lib.extract_from_zero, bitText_data, bitText_data]
    intro e
    have e2 := prefix_bits hle (room i hi h1) (room j hj (by omega)) e
    have hP := Nat.two_pow_pos (lenAt l j - lenAt l i)
    by_cases c : lenAt l i < lenAt l j ∨ lenAt l i = lenAt l j ∧ i < j
    · have o := numOf_order l (b := lenAt l j) (j := j) h1 hi (la i hi).1.symm c
      have := (Nat.le_div_iff_mul_le hP).2 o
      omega
    · have o := numOf_order l (b := lenAt l i) (j := i) (a := lenAt l j) (i := j) (by omega) hj (la j hj).1.symm (by omega)
      have e3 : lenAt l j - lenAt l i = 0 := by omega
      have e4 : lenAt l i - lenAt l j = 0 := by omega
      rw [e3, Nat.pow_zero, Nat.div_one] at e2
      rw [e4, Nat.pow_zero, Nat.mul_one] at o
      omega
  · rw [codesP_length] at hj
    have hi : i < l.length := by omega
    have h1 := one i hi hne
    rw [sz i hi, sz j hj] at heq
    have ri := room i hi h1
    have rj := room j hj (by omega)
    have o := numOf_order l (b := lenAt l j) (j := j) h1 hi (la i hi).1.symm (.inr ⟨heq, hij⟩)
    rw [heq, Nat.sub_self, Nat.pow_zero, Nat.mul_one] at o
    rw [at_ i hi, at_ j hj, if_pos h1, if_pos (by omega), ByteArray.toList_eq, ByteArray.toList_eq, bitText_data, bitText_data, heq]
    rw [heq] at ri
    refine less_bits _ _ _ ?_
    rw [Nat.mod_eq_of_lt ri, Nat.mod_eq_of_lt rj]; omega

/-! ### what is encoded is decoded again -/
theorem begs (b c : ByteArray) : decBeg b c = true ↔ c.data.toList ≠ [] ∧ c.data.toList <+: b.data.toList := by
  unfold decBeg Lib.hasPrefix
  rw [Bool.and_eq_true, List.isPrefixOf_iff_prefix, Bool.not_eq_true', List.isEmpty_eq_false_iff, ByteArray.toList_eq]
theorem fnd_is (b : ByteArray) : ∀ (cs : List ByteArray) (i j : Nat) (h : j < cs.length), decBeg b cs[j] = true → (∀ m (hm : m < j), decBeg b (cs[m]'(by omega)) = false) → decFnd b cs (i : Int) = ((i + j : Nat) : Int)
  | [], _, _, h, _, _ => absurd h (by simp)
  | c :: cs, i, 0, _, h1, _ => by
    unfold decFnd
    rw [if_pos (by simpa using h1)]; rfl
  | c :: cs, i, j + 1, h, h1, h2 => by
    unfold decFnd
    have h0 := h2 0 (by omega)
    rw [if_neg (by rw [List.getElem_cons_zero] at h0; rw [h0]; simp), show ((i : Int) + 1) = ((i + 1 : Nat) : Int) by omega]
    rw [fnd_is b cs (i + 1) j (by simpa using h) (by simpa using h1) (fun m hm => by simpa using h2 (m + 1) (by omega))]
    omega
theorem only_one {l : List Int} (G : CodesGood l (codesP l)) (b : ByteArray) {i j : Nat} (hi : i < (codesP l).length) (hj : j < (codesP l).length) (h1 : decBeg b (codesP l)[i] = true) (h2 : decBeg b (codesP l)[j] = true) : i = j := by
  by_cases hne : i = j
  · exact hne
  exfalso
  have key : ∀ {i j : Nat} (hi : i < (codesP l).length) (hj : j < (codesP l).length), i ≠ j → decBeg b (codesP l)[i] = true → decBeg b (codesP l)[j] = true → (codesP l)[i].size ≤ (codesP l)[j].size → False := by
    intro i j hi hj hne h1 h2 hle
    obtain ⟨n1, p1⟩ := (begs _ _).1 h1
    obtain ⟨n2, p2⟩ := (begs _ _).1 h2
    have hp : (codesP l)[i].data.toList <+: (codesP l)[j].data.toList := List.prefix_of_prefix_length_le p1 p2 (by rw [dsize, dsize]; exact hle)
    have hx := G.pre i j hi hj hne (by rw [getD_at hi, ByteArray.toList_eq]; exact n1) (by rw [getD_at hi, getD_at hj]; exact hle)
    rw [getD_at hi, getD_at hj] at hx
    refine hx ?_
    rw [ByteArray.toList_eq, ByteArray.toList_eq, Lib.extract_from_zero, ← dsize (codesP l)[i]]
    exact (List.prefix_iff_eq_take.1 hp).symm
  rcases Nat.le_total (codesP l)[i].size (codesP l)[j].size with h | h
  · exact key hi hj hne h1 h2 h
  · exact key hj hi (fun e => hne e.symm) h2 h1 h
theorem dec_l {l : List Int} (G : CodesGood l (codesP l)) (hcs : (codesP l).length ≤ 100) : ∀ (syms : List Int) (bits : ByteArray) (out : List Int), (∀ i ∈ syms, 0 ≤ i ∧ i.toNat < (codesP l).length ∧ ((codesP l).getD i.toNat ByteArray.empty).toList ≠ []) →
    bits.data.toList = (syms.flatMap fun i => ((codesP l).getD i.toNat ByteArray.empty).data.toList) → out.length + syms.length ≤ 200 →
    Ev (fun k => impl_DecodeBits.l0 k (codesP l) bits out) (out ++ syms, true)
  | [], bits, out, _, hb, _ => by
    refine Ev.step (f := fun _ => some (out, true)) (fun k => ?_) (by rw [List.append_nil]; exact Ev.now _)
    simp only [impl_DecodeBits.l0]
    rw [if_pos (by rw [ByteArray.toList_eq, hb]; rfl)]
  | i :: t, bits, out, hs, hb, hn => by
    obtain ⟨i0, i1, i2⟩ := hs i List.mem_cons_self
    rw [getD_at i1, ByteArray.toList_eq] at i2
    rw [List.flatMap_cons, getD_at i1] at hb
    have hbeg : decBeg bits (codesP l)[i.toNat] = true := (begs _ _).2 ⟨i2, by rw [hb]; exact List.prefix_append _ _⟩
    have hf : decFnd bits (codesP l) 0 = (i.toNat : Int) := by
      have := fnd_is bits (codesP l) 0 i.toNat i1 hbeg (fun m hm => by
        cases h : decBeg bits ((codesP l)[m]'(by omega)) with
        | false => rfl
        | true => exact absurd (only_one G bits (by omega) i1 h hbeg) (by omega))
      rw [Nat.zero_add] at this
      exact this
    have hrd : rdOf ByteArray.empty (codesP l) (i.toNat : Int) = (codesP l)[i.toNat] := getD_at i1 _
    have hsz : bits.size = (codesP l)[i.toNat].size + (t.flatMap fun i => ((codesP l).getD i.toNat ByteArray.empty).data.toList).length := by
      rw [← dsize bits, hb, List.length_append, dsize]
    have hne : bits.toList ≠ [] := by
      rw [ByteArray.toList_eq, hb]
      intro e
      exact i2 (List.append_eq_nil_iff.1 e).1
    have hrest : (bits.extract (codesP l)[i.toNat].size bits.size).data.toList = t.flatMap fun i => ((codesP l).getD i.toNat ByteArray.empty).data.toList := by
      rw [Lib.extract_data, hb, ← dsize (codesP l)[i.toNat], List.drop_left, List.take_of_length_le]
      have := dsize (codesP l)[i.toNat]
      omega
    have g := dec_l G hcs t (bits.extract (codesP l)[i.toNat].size bits.size) (out ++ [i]) (fun m hm => hs m (List.mem_cons_of_mem _ hm)) hrest (by simp only [List.length_append, List.length_cons, List.length_nil] at hn ⊢; omega)
    rw [List.append_assoc] at g
    simp only [List.length_cons] at hn
    refine Ev.step (fun k => ?_) g
    simp only [impl_DecodeBits.l0, hf, hrd]
    rw [if_neg hne, if_neg (by omega), if_neg (by omega), if_pos (by omega), if_pos (by omega), if_pos (by omega), show ((i.toNat : Nat) : Int) = i by omega]
theorem code_bits {l : List Int} (hl : ∀ n ∈ l, 0 ≤ n ∧ n ≤ 23) (i : Nat) (h : i < (codesP l).length) : ∀ x ∈ ((codesP l).getD i ByteArray.empty).data.toList, IsBit x := by
  intro x hx
  have h' := h
  rw [codesP_length] at h'
  rw [getD_at h, codesP_at l hl i h'] at hx
  split at hx
  · rw [bitText_data] at hx
    obtain ⟨m, _, rfl⟩ := List.mem_map.1 hx
    rcases Nat.mod_two_eq_zero_or_one (numOf l (lenAt l i) i / 2 ^ (lenAt l i - 1 - m)) with e | e
    · rw [e]; exact .inl rfl
    · rw [e]; exact .inr rfl
  · exact absurd hx (by simp)
theorem round_enc (l0 l1 : List Int) (r : ByteArray × Bool) (hl : lenB l0 = true) (hk : roomTo 23 l0 ≤ 2 ^ 23) (hn : l1.length ≤ 200) (h : EncOK (codesP l0) [] l1 r) (ht : r.2 = true) : Ev (fun k => impl_DecodeBits.f k l0 r.1) (l1, true) := by
  obtain ⟨hs, hr⟩ := h.2 ht
  obtain ⟨hl1, hm⟩ := (lenB_iff l0).1 hl
  have G := CodesGood.codes l0 hm (by omega) hk
  have hc : (codesP l0).length ≤ 100 := by rw [codesP_length]; omega
  obtain ⟨b, _, h2, _⟩ := right_ev l0 (by omega)
  have h4 : Ev (fun k => impl_areRight.f k l0) (decide (((roomTo 23 l0 : Nat) : Int) ≤ 8388608)) :=
    Ev.congr (f := fun k => (impl_kraft.f k l0).bind fun t => some (decide (t ≤ 8388608))) (fun k => by simp [impl_areRight.f, areLengths_eq, hl]) (Ev.bind (kraft_is l0 hm (by omega)).1 (Ev.now _))
  rw [decide_eq_true (by omega)] at h4
  have hb : impl_areBits.f r.1 = some true := by
    unfold impl_areBits.f
    rw [if_pos (by have := h.1; omega)]
    refine congrArg some ((trim_bits _).2 fun x hx => ?_)
    rw [hr, List.nil_append] at hx
    obtain ⟨i, hi, hxi⟩ := List.mem_flatMap.1 hx
    exact code_bits hm _ (hs i hi).2.1 x hxi
  obtain ⟨_, c2⟩ := codes_ev l0 (by omega)
  have g := dec_l G hc l1 r.1 [] hs (by simpa using hr) (by simpa using hn)
  unfold impl_DecodeBits.f
  refine Ev.bind h4 ?_
  simp only [if_true, hb, Option.bind_some]
  exact Ev.bind c2 g

theorem bt_arr (acc : List UInt8) (i : Nat) (h : i < acc.length) : bt ⟨acc.toArray⟩ (i : Int) = (acc[i].toNat : Int) := by
  unfold bt
  rw [dif_pos (by rw [bsize]; simpa using h)]
  rfl
def AllBits (acc : List UInt8) : Prop := ∀ x ∈ acc, IsBit x
theorem bit_at (acc : List UInt8) (h : AllBits acc) (i : Nat) (hi : i < acc.length) : ∃ b : Nat, b < 2 ∧ bt ⟨acc.toArray⟩ (i : Int) = 48 + (b : Int) := by
  rw [bt_arr acc i hi]
  rcases h _ (List.getElem_mem hi) with e | e
  · exact ⟨0, by omega, by rw [e]; decide⟩
  · exact ⟨1, by omega, by rw [e]; decide⟩
theorem or_bit : ∀ v : Fin 128, ∀ b : Fin 2, Go.bits .or .u8 ((2 * v.1 : Nat) : Int) ((b.1 : Nat) : Int) = ((2 * v.1 + b.1 : Nat) : Int) := by decide +kernel
/-- what so many bits from a place on tell -/
def val (acc : List UInt8) (p : Nat) : Nat → Nat
  | 0 => 0
  | t + 1 => 2 * val acc p t + (bt ⟨acc.toArray⟩ ((p + t : Nat) : Int) - 48).toNat
theorem val_lt (acc : List UInt8) (h : AllBits acc) (p : Nat) : ∀ t, p + t ≤ acc.length → val acc p t < 2 ^ t
  | 0, _ => by simp [val]
  | t + 1, ht => by
    have ih := val_lt acc h p t (by omega)
    obtain ⟨b, hb, e⟩ := bit_at acc h (p + t) (by omega)
    unfold val
    rw [e, Nat.pow_succ]
    omega
theorem pack_in (acc : List UInt8) (h : AllBits acc) (hn : acc.length ≤ 5000) (x5 : Int) (pre : List Int) (hp : pre.length ≤ 5000) (j : Nat) (hj : 8 * j + 8 ≤ acc.length) (r : ByteArray × Int × Bool)
    (g : Ev (fun k => spec_PackBits.l1 k ⟨acc.toArray⟩ x5 (pre ++ [((val acc (8 * j) 8 : Nat) : Int)]) ((8 * (j + 1) : Nat) : Int)) r) (d : Nat) : ∀ t, t + d = 8 →
    Ev (fun k => spec_PackBits.l2 k ⟨acc.toArray⟩ x5 pre ((8 * j : Nat) : Int) ((val acc (8 * j) t : Nat) : Int) (t : Int)) r := by
  induction d with
  | zero =>
    intro t ht
    obtain rfl : t = 8 := by omega
    have hv := val_lt acc h (8 * j) 8 (by omega)
    refine Ev.step (fun k => ?_) g
    simp only [spec_PackBits.l2]
    have ev : ((val acc (8 * j) 8 : Nat) : Int) % 256 = ((val acc (8 * j) 8 : Nat) : Int) := by omega
    rw [if_neg (by omega), if_pos (by omega), ev, w64 (by omega) (by omega), show ((8 * j : Nat) : Int) + 8 = ((8 * (j + 1) : Nat) : Int) by omega]
  | succ d ih =>
    intro t ht
    have g2 := ih (t + 1) (by omega)
    have hv := val_lt acc h (8 * j) t (by omega)
    have hv2 : 2 ^ t ≤ 2 ^ 7 := Nat.pow_le_pow_right (by decide) (by omega)
    obtain ⟨b, hb, e⟩ := bit_at acc h (8 * j + t) (by omega)
    refine Ev.step (fun k => ?_) g2
    simp only [spec_PackBits.l2, bsize]
    have ea : wrap64 (((8 * j : Nat) : Int) + (t : Int)) = ((8 * j + t : Nat) : Int) := by rw [w64 (by omega) (by omega)]; omega
    have eb : ((val acc (8 * j) (t + 1) : Nat) : Int) = 2 * ((val acc (8 * j) t : Nat) : Int) + (b : Int) := by
      rw [val, e]; omega
    have e2 : wrap64 (2 * ((val acc (8 * j) t : Nat) : Int)) = 2 * ((val acc (8 * j) t : Nat) : Int) := w64 (by omega) (by omega)
    have e3 : (48 + (b : Int) - 48) % 256 = (b : Int) := by omega
    rw [if_pos (by omega), ea, if_pos (by omega), if_pos (by omega), e, e2, e3, w64 (x := 2 * ((val acc (8 * j) t : Nat) : Int) + (b : Int)) (by omega) (by omega), eb, wj (n := 8) (by omega) (by omega)]
theorem pack_im (acc : List UInt8) (h : AllBits acc) (hn : acc.length ≤ 5000) (x5 : Int) (pre post : List Int) (j : Nat) (hl : pre.length = j) (hj : 8 * j + 8 ≤ acc.length) (r : ByteArray × Int × Bool)
    (g : Ev (fun k => impl_PackBits.l0 k ⟨acc.toArray⟩ x5 (pre ++ ((val acc (8 * j) 8 : Nat) : Int) :: post) (acc.length : Int) ((8 * (j + 1) : Nat) : Int)) r) (d : Nat) : ∀ t, t + d = 8 →
    Ev (fun k => impl_PackBits.l0 k ⟨acc.toArray⟩ x5 (pre ++ ((val acc (8 * j) t : Nat) : Int) :: post) (acc.length : Int) ((8 * j + t : Nat) : Int)) r := by
  induction d with
  | zero =>
    intro t ht
    obtain rfl : t = 8 := by omega
    exact g
  | succ d ih =>
    intro t ht
    have g2 := ih (t + 1) (by omega)
    have hv := val_lt acc h (8 * j) t (by omega)
    have hv2 : 2 ^ t ≤ 2 ^ 7 := Nat.pow_le_pow_right (by decide) (by omega)
    obtain ⟨b, hb, e⟩ := bit_at acc h (8 * j + t) (by omega)
    refine Ev.step (fun k => ?_) g2
    simp only [impl_PackBits.l0, bsize]
    have ea : wrap64 (Int.tdiv ((8 * j + t : Nat) : Int) 8) = (j : Int) := by
      rw [Int.tdiv_eq_ediv_of_nonneg (by omega), w64 (by omega) (by omega)]; omega
    have eb : ((val acc (8 * j) (t + 1) : Nat) : Int) = ((2 * val acc (8 * j) t + b : Nat) : Int) := by
      rw [val, e]; omega
    have er : rd (pre ++ ((val acc (8 * j) t : Nat) : Int) :: post) (j : Int) = ((val acc (8 * j) t : Nat) : Int) := by
      rw [rdj, ← hl]; simp [List.getD_eq_getElem?_getD]
    have e2 : (((val acc (8 * j) t : Nat) : Int) * 2) % 256 = ((2 * val acc (8 * j) t : Nat) : Int) := by omega
    have e3 : (48 + (b : Int) - 48) % 256 = (b : Int) := by omega
    have eo := or_bit ⟨val acc (8 * j) t, by omega⟩ ⟨b, hb⟩
    simp only at eo
    have hll : (pre ++ ((val acc (8 * j) t : Nat) : Int) :: post).length = j + 1 + post.length := by simp [hl]; omega
    rw [if_pos (by omega), ea, if_pos (by omega), if_pos (by rw [hll]; omega), if_pos (by omega), if_pos (by omega), er, e2, e, e3, eo, eb, wj (n := 8 * j + t + 1) (by omega) (by omega), Int.toNat_natCast]
    have es : (pre ++ ((val acc (8 * j) t : Nat) : Int) :: post).set j ((2 * val acc (8 * j) t + b : Nat) : Int) = pre ++ ((2 * val acc (8 * j) t + b : Nat) : Int) :: post := by
      rw [List.set_append_right _ _ (by omega), hl, Nat.sub_self]; rfl
    rw [es]
    rfl
def vals (acc : List UInt8) (j d : Nat) : List Int := (List.range' j d).map fun i => ((val acc (8 * i) 8 : Nat) : Int)
theorem vals_succ (acc : List UInt8) (j d : Nat) : vals acc j (d + 1) = ((val acc (8 * j) 8 : Nat) : Int) :: vals acc (j + 1) d := by
  unfold vals; rw [List.range'_succ, List.map_cons]
theorem pack_l (acc : List UInt8) (h : AllBits acc) (hn : acc.length ≤ 5000) (x5 : Int) (m : Nat) (hm : acc.length = 8 * m) (d : Nat) : ∀ (j : Nat) (pre : List Int), j + d = m → pre.length = j →
    ∃ r : ByteArray × Int × Bool, Ev (fun k => spec_PackBits.l1 k ⟨acc.toArray⟩ x5 pre ((8 * j : Nat) : Int)) r ∧ Ev (fun k => impl_PackBits.l0 k ⟨acc.toArray⟩ x5 (pre ++ List.replicate d 0) (acc.length : Int) ((8 * j : Nat) : Int)) r ∧ r = (strOfNums (pre ++ vals acc j d), x5, true) := by
  induction d with
  | zero =>
    intro j pre hj hl
    refine ⟨(strOfNums pre, x5, true), Ev.step (f := fun _ => some (strOfNums pre, x5, true)) (fun k => ?_) (Ev.now _), Ev.step (f := fun _ => some (strOfNums pre, x5, true)) (fun k => ?_) (Ev.now _), by simp [vals]⟩
    · simp only [spec_PackBits.l1, bsize]; rw [if_neg (by omega)]
    · simp only [impl_PackBits.l0]; rw [if_neg (by omega)]; simp
  | succ d ih =>
    intro j pre hj hl
    obtain ⟨r, g1, g2, g3⟩ := ih (j + 1) (pre ++ [((val acc (8 * j) 8 : Nat) : Int)]) (by omega) (by simp [hl])
    refine ⟨r, ?_, ?_, by rw [g3, vals_succ, List.append_assoc]; rfl⟩
    · have := pack_in acc h hn x5 pre (by omega) j (by omega) r g1 8 0 (by omega)
      refine Ev.step (fun k => ?_) this
      simp only [spec_PackBits.l1, bsize]
      rw [if_pos (by omega)]
      rfl
    · rw [List.append_assoc] at g2
      exact pack_im acc h hn x5 pre (List.replicate d 0) j hl (by omega) r g2 8 0 (by omega)
theorem pad_l (p : Nat) (hp : p ≤ 7) (r : ByteArray × Int × Bool) (d : Nat) : ∀ (i : Nat) (acc : List UInt8), acc.length + d ≤ 5000 → i + d = p →
    Ev (fun k => spec_PackBits.l1 k ⟨(acc ++ List.replicate d 49).toArray⟩ (p : Int) [] 0) r → Ev (fun k => spec_PackBits.l0 k ⟨acc.toArray⟩ (p : Int) (i : Int)) r := by
  induction d with
  | zero =>
    intro i acc hn hi g
    simp only [List.replicate_zero, List.append_nil] at g
    refine Ev.step (fun k => ?_) g
    simp only [spec_PackBits.l0]; rw [if_neg (by omega)]
  | succ d ih =>
    intro i acc hn hi g
    have g2 := ih (i + 1) (acc ++ [49]) (by simp; omega) (by omega) (by rw [List.append_assoc]; exact g)
    refine Ev.step (fun k => ?_) g2
    simp only [spec_PackBits.l0, bsize]
    rw [if_pos (by omega), if_pos (by omega), wj (n := 8) (by omega) (by omega), bapp]
theorem rep_one : ∀ c, Lib.repeatL [49] c = List.replicate c 49
  | 0 => rfl
  | c + 1 => by rw [Lib.repeatL, rep_one c, List.replicate_succ]; rfl
/-- what packing tells: no bits, or the bits with their padding, eight by eight -/
def PackOK (s : ByteArray) (r : ByteArray × Int × Bool) : Prop := r = (⟨#[]⟩, 0, false) ∨ AllBits s.data.toList ∧ s.size ≤ 4000 ∧ ∃ p m : Nat, p ≤ 7 ∧ s.size + p = 8 * m ∧ r = (strOfNums (vals (s.data.toList ++ List.replicate p 49) 0 m), (p : Int), true)
theorem PackBits_both (s : ByteArray) (hn : s.size ≤ 1048576) : ∃ r : ByteArray × Int × Bool, Ev (fun k => spec_PackBits.f k s) r ∧ Ev (fun k => impl_PackBits.f k s) r ∧ PackOK s r := by
  obtain ⟨b, b1, b2⟩ := bitText_both s hn
  cases b with
  | false =>
    refine ⟨(⟨#[]⟩, 0, false), Ev.bind b1 (Ev.congr (fun k => by rw [if_neg (by decide)]) (Ev.now _)), Ev.congr (fun k => ?_) (Ev.now _), .inl rfl⟩
    unfold impl_PackBits.f
    rw [b2]; rfl
  | true =>
    have hb : AllBits s.data.toList ∧ s.size ≤ 4000 := by
      unfold impl_areBits.f at b2
      by_cases c : (s.size : Int) ≤ 4000
      · rw [if_pos c] at b2
        exact ⟨(trim_bits s.data.toList).1 (Option.some.inj b2), by omega⟩
      · rw [if_neg c] at b2; exact absurd b2 (by simp)
    obtain ⟨hb, h4⟩ := hb
    obtain ⟨p, hp⟩ : ∃ p : Nat, p = (8 - s.size % 8) % 8 := ⟨_, rfl⟩
    have ep : (8 - ((s.size : Int) % 8)) % 8 = (p : Int) := by omega
    have hp7 : p ≤ 7 := by omega
    obtain ⟨m, hm⟩ : ∃ m, s.size + p = 8 * m := ⟨(s.size + p) / 8, by omega⟩
    have hd : s.data.toList.length = s.size := dsize s
    have es : (⟨s.data.toList.toArray⟩ : ByteArray) = s := by apply ByteArray.ext; simp
    have hl : (s.data.toList ++ List.replicate p (49 : UInt8)).length = 8 * m := by simp only [List.length_append, List.length_replicate, hd]; exact hm
    have hall : AllBits (s.data.toList ++ List.replicate p (49 : UInt8)) := by
      intro x hx
      rcases List.mem_append.1 hx with hx | hx
      · exact hb x hx
      · exact .inr (List.eq_of_mem_replicate hx)
    obtain ⟨r, g1, g2, g3⟩ := pack_l _ hall (by omega) (p : Int) m hl m 0 [] (by omega) rfl
    refine ⟨r, ?_, ?_, .inr ⟨hb, h4, p, m, hp7, hm, g3⟩⟩
    · refine Ev.bind b1 ?_
      have g := pad_l p hp7 r p 0 s.data.toList (by omega) (by omega) g1
      rw [es] at g
      simp only [if_true, ep]
      exact g
    · refine Ev.congr (fun k => ?_) g2
      unfold impl_PackBits.f strings_Repeat.f
      have eb : s ++ (⟨(List.replicate p (49 : UInt8)).toArray⟩ : ByteArray) = ⟨(s.data.toList ++ List.replicate p 49).toArray⟩ := by
        apply ByteArray.ext; simp
      have e8 : wrap64 (((8 * m : Nat) : Int) / 8) = (m : Int) := by rw [w64 (by omega) (by omega)]; omega
      have e1 : ((⟨#[49]⟩ : ByteArray).data.toList) = [49] := rfl
      have e2 : (⟨#[49]⟩ : ByteArray).size = 1 := rfl
      rw [b2]
      simp only [Option.bind_some, if_true, ep, e1, e2, Int.toNat_natCast, rep_one]
      rw [if_pos (by omega), if_pos (by omega), if_pos (by omega), if_pos (by omega)]
      simp only [Option.bind_some, eb, bsize, hl, e8, Int.toNat_natCast]
      rw [if_pos (by rw [List.length_replicate]; omega), if_pos (by omega), if_pos (by omega)]
      rfl

theorem bt_byte (s : ByteArray) (i : Int) : ∃ n : Nat, n < 256 ∧ bt s i = (n : Int) := by
  unfold bt
  split
  · rename_i h; exact ⟨_, UInt8.toNat_lt _, rfl⟩
  · exact ⟨0, by omega, rfl⟩
theorem index_mem (l : List UInt8) (c : UInt8) : -1 ≤ Lib.indexByte l c ∧ (0 ≤ Lib.indexByte l c ↔ c ∈ l) := by
  induction l with
  | nil => simp [Lib.indexByte]
  | cons b l ih =>
    unfold Lib.indexByte
    by_cases h : b = c
    · subst h; simp
    · rw [if_neg (by simpa using h)]
      obtain ⟨h1, h2⟩ := ih
      by_cases h3 : Lib.indexByte l c = -1
      · rw [if_pos (by simp [h3])]
        refine ⟨by omega, ?_⟩
        have : ¬ c ∈ l := fun hm => by have := h2.2 hm; omega
        simp [this, Ne.symm h]
      · rw [if_neg (by simpa using h3)]
        have h4 : 0 ≤ Lib.indexByte l c := by omega
        have := h2.1 h4
        refine ⟨by omega, ?_⟩
        simp [this]; omega
theorem ext_drop (acc : List UInt8) (e : Nat) : ((⟨acc.toArray⟩ : ByteArray).extract e (⟨acc.toArray⟩ : ByteArray).size).data.toList = acc.drop e := by
  rw [bsize, ByteArray.data_extract, Array.toList_extract]
  simp [List.take_of_length_le]
def OneBits (acc : List UInt8) : Prop := ∀ x ∈ acc, x = 48 ∨ x = 49
theorem bit_one (n s : Nat) : OneBits (bitText n s).data.toList := by
  intro x hx
  unfold bitText bitNums at hx
  rw [strOfNums_data, List.map_map] at hx
  obtain ⟨i, _, rfl⟩ := List.mem_map.1 hx
  simp only [Function.comp, bitNum]
  rw [Int.toNat_natCast]
  have := Nat.mod_lt (n / 2 ^ (s - 1 - i)) (show 0 < 2 by decide)
  generalize n / 2 ^ (s - 1 - i) % 2 = z at this
  obtain rfl | rfl : z = 0 ∨ z = 1 := by omega
  · exact .inl rfl
  · exact .inr rfl

/-! ### what is packed is unpacked again -/
theorem bitBytes_snoc (v b t : Nat) (hb : b < 2) : bitBytes (2 * v + b) (t + 1) = bitBytes v t ++ [UInt8.ofNat (48 + b)] := by
  unfold bitBytes
  rw [List.range_succ, List.map_append]
  refine congr (congrArg _ (List.map_congr_left fun i hi => ?_)) ?_
  · have hi := List.mem_range.1 hi
    rw [show t + 1 - 1 - i = 1 + (t - 1 - i) from by omega, Nat.pow_add, ← Nat.div_div_eq_div_mul, show (2 * v + b) / 2 ^ 1 = v by omega]
  · simp only [List.map_cons, List.map_nil]
    rw [show t + 1 - 1 - t = 0 from by omega, Nat.pow_zero, Nat.div_one, show (2 * v + b) % 2 = b by omega]
theorem val_bits (acc : List UInt8) (h : AllBits acc) (p : Nat) : ∀ t, p + t ≤ acc.length → bitBytes (val acc p t) t = (acc.drop p).take t
  | 0, _ => by simp [bitBytes]
  | t + 1, ht => by
    have ih := val_bits acc h p t (by omega)
    obtain ⟨b, hb, e⟩ := bit_at acc h (p + t) (by omega)
    have e2 := e
    rw [bt_arr acc (p + t) (by omega)] at e2
    have e3 : acc[p + t] = UInt8.ofNat (48 + b) := by
      apply UInt8.toNat_inj.1
      rw [UInt8.toNat_ofNat']; omega
    unfold val
    rw [e, show (48 + (b : Int) - 48).toNat = b by omega, bitBytes_snoc _ _ _ hb, ih, List.take_succ_eq_append_getElem (by rw [List.length_drop]; omega), List.getElem_drop, e3]
theorem vals_at (acc : List UInt8) (m i : Nat) (h : i < m) : (vals acc 0 m)[i]? = some ((val acc (8 * i) 8 : Nat) : Int) := by
  unfold vals; rw [List.getElem?_map, List.getElem?_range' h]; simp
theorem unpack_r (acc : List UInt8) (h : AllBits acc) (p m : Nat) (hp : p ≤ 7) (hm : acc.length = 8 * m) (hm2 : m ≤ 501) (hpm : p ≤ acc.length) (hpad : (48 : UInt8) ∉ acc.drop (acc.length - p)) (d : Nat) : ∀ j, j + d = m →
    Ev (fun k => impl_UnpackBits.l0 k (strOfNums (vals acc 0 m)) (p : Int) (acc.take (8 * j)) (j : Int)) ((⟨acc.toArray⟩ : ByteArray).extract 0 (acc.length - p), true) := by
  have hz : (strOfNums (vals acc 0 m)).size = m := by rw [strOfNums_size]; simp [vals]
  induction d with
  | zero =>
    intro j hj
    rw [List.take_of_length_le (by omega)]
    have ew : wrap64 ((acc.length : Int) - (p : Int)) = ((acc.length - p : Nat) : Int) := by rw [w64 (by omega) (by omega)]; omega
    refine Ev.step (f := fun _ => some ((⟨acc.toArray⟩ : ByteArray).extract 0 (acc.length - p), true)) (fun k => ?_) (Ev.now _)
    simp only [impl_UnpackBits.l0, hz]
    rw [if_neg (by omega), ew]
    unfold impl_UnpackBits.fin
    rw [if_pos (by omega), if_pos (by rw [bsize]; omega), Int.toNat_natCast, ext_drop]
    have hi := (index_mem (acc.drop (acc.length - p)) 48).2
    rw [if_neg (fun h => hpad (hi.1 h))]
  | succ d ih =>
    intro j hj
    have hv := val_lt acc h (8 * j) 8 (by omega)
    have eb : bt (strOfNums (vals acc 0 m)) (j : Int) = ((val acc (8 * j) 8 : Nat) : Int) := by
      have hj2 : j < (strOfNums (vals acc 0 m)).size := by omega
      rw [bt_at_nat _ j hj2]
      have e : (strOfNums (vals acc 0 m)).data.toList[j]? = some (UInt8.ofNat (val acc (8 * j) 8)) := by
        rw [strOfNums_data, List.getElem?_map, vals_at acc m j (by omega)]; simp
      rw [List.getElem?_eq_getElem (by rw [dsize]; exact hj2)] at e
      rw [Option.some.inj e, UInt8.toNat_ofNat']
      omega
    obtain ⟨_, b2⟩ := bits_ev (val acc (8 * j) 8) 8 (by omega) (by omega)
    have g := ih (j + 1) (by omega)
    have hcat : acc.take (8 * j) ++ (bitText (val acc (8 * j) 8) 8).data.toList = acc.take (8 * (j + 1)) := by
      rw [bitText_data, val_bits acc h (8 * j) 8 (by omega), show 8 * (j + 1) = 8 * j + 8 by omega, List.take_add]
    apply Ev.step
    · intro k
      simp only [impl_UnpackBits.l0, hz]
      rw [if_pos (by omega), if_pos (by omega), eb, w64 (x := ((val acc (8 * j) 8 : Nat) : Int)) (by omega) (by omega)]
    · refine Ev.bind b2 (Ev.congr (fun k => ?_) g)
      rw [if_pos (by rw [bitText_size, List.length_take]; omega), hcat, wj (n := m) (by omega) (by omega)]
theorem pk_size (acc : List UInt8) (m : Nat) : (strOfNums (vals acc 0 m)).size = m := by rw [strOfNums_size]; simp [vals]
theorem pk_cut (s : ByteArray) (p : Nat) : (⟨(s.data.toList ++ List.replicate p (49 : UInt8)).toArray⟩ : ByteArray).extract 0 ((s.data.toList ++ List.replicate p (49 : UInt8)).length - p) = s := by
  apply ByteArray.ext
  apply Array.toList_inj.1
  rw [Lib.extract_from_zero, show (s.data.toList ++ List.replicate p (49 : UInt8)).length - p = s.data.toList.length by rw [List.length_append, List.length_replicate]; omega]
  simp
theorem pk_no (l : List UInt8) (p : Nat) : (48 : UInt8) ∉ (l ++ List.replicate p (49 : UInt8)).drop ((l ++ List.replicate p (49 : UInt8)).length - p) := by
  rw [show (l ++ List.replicate p (49 : UInt8)).length - p = l.length by rw [List.length_append, List.length_replicate]; omega, List.drop_left]
  intro hx
  exact absurd (List.eq_of_mem_replicate hx) (by decide)
theorem pk_all (l : List UInt8) (h : AllBits l) (p : Nat) : AllBits (l ++ List.replicate p (49 : UInt8)) := by
  intro x hx
  rcases List.mem_append.1 hx with hx | hx
  · exact h x hx
  · exact .inr (List.eq_of_mem_replicate hx)
theorem pk_step (S : ByteArray) (p m : Nat) (hp : p ≤ 7) (hz : S.size = m) (hpm : p ≤ 8 * m) (h4 : 8 * m - p ≤ 4000) (e8 : wrap64 (8 * (m : Int)) = 8 * (m : Int)) (e9 : wrap64 (8 * (m : Int) - (p : Int)) = 8 * (m : Int) - (p : Int)) (k : Nat) : impl_UnpackBits.f k S (p : Int) = impl_UnpackBits.l0 k S (p : Int) [] 0 := by
  have c1 : ¬ 8 * (m : Int) < (p : Int) := by omega
  have c2 : ¬ 4000 < 8 * (m : Int) - (p : Int) := by omega
  have c3 : (0 : Int) ≤ (p : Int) ∧ (p : Int) ≤ 7 := ⟨by omega, by omega⟩
  unfold impl_UnpackBits.f
  rw [within_eq, decide_eq_true c3, Option.bind_some, if_pos rfl, hz, e8, if_neg c1, e9, if_neg c2]
theorem pk_f (S : ByteArray) (p m : Nat) (s : ByteArray) (hp : p ≤ 7) (hz : S.size = m) (hpm : p ≤ 8 * m) (h4 : 8 * m - p ≤ 4000) (g : Ev (fun k => impl_UnpackBits.l0 k S (p : Int) [] 0) (s, true)) : Ev (fun k => impl_UnpackBits.f k S (p : Int)) (s, true) :=
  Ev.congr (fun k => pk_step S p m hp hz hpm h4 (w64 (by omega) (by omega)) (w64 (by omega) (by omega)) k) g
theorem pk_len (z m p : Nat) (hp : p ≤ 7) (hm : z + p = 8 * m) (h4 : z ≤ 4000) : (m : Int) = wrap64 (Int.tdiv (wrap64 ((z : Int) + 7)) 8) := by
  rw [w64 (x := (z : Int) + 7) (by omega) (by omega), Int.tdiv_eq_ediv_of_nonneg (by omega), w64 (by omega) (by omega)]
  omega
theorem pk_round (s : ByteArray) (p m : Nat) (hb : AllBits s.data.toList) (h4 : s.size ≤ 4000) (hp : p ≤ 7) (hm : s.size + p = 8 * m) :
    Ev (fun k => impl_UnpackBits.l0 k (strOfNums (vals (s.data.toList ++ List.replicate p 49) 0 m)) (p : Int) [] 0) (s, true) := by
  have hd : s.data.toList.length = s.size := dsize s
  have hl : (s.data.toList ++ List.replicate p (49 : UInt8)).length = 8 * m := by rw [List.length_append, List.length_replicate, hd]; exact hm
  have g := unpack_r (s.data.toList ++ List.replicate p (49 : UInt8)) (pk_all _ hb p) p m hp hl (by omega) (by omega) (pk_no _ p) m 0 (Nat.zero_add m)
  rw [pk_cut, Nat.mul_zero, List.take_zero] at g
  exact g
theorem round_pack (s : ByteArray) (r : ByteArray × Int × Bool) (h : PackOK s r) (ht : r.2.2 = true) : Ev (fun k => impl_UnpackBits.f k r.1 r.2.1) (s, true) ∧ (r.1.size : Int) = wrap64 (Int.tdiv (wrap64 ((s.size : Int) + 7)) 8) ∧ s.size ≤ 4000 := by
  rcases h with h | ⟨hb, h4, p, m, hp, hm, h⟩
  · rw [h] at ht; exact absurd ht (by simp)
  · rw [h]
    refine ⟨pk_f _ p m s hp (pk_size _ m) (by omega) (by omega) (pk_round s p m hb h4 hp hm), ?_, h4⟩
    show ((strOfNums (vals (s.data.toList ++ List.replicate p 49) 0 m)).size : Int) = _
    rw [pk_size]
    exact pk_len s.size m p hp hm h4

--IMPORT Derived.Lib.RabinKarpLaws
/-- Bytes. -/
def Byt (l : List Int) : Prop := ∀ x ∈ l, 0 ≤ x ∧ x ≤ 255
theorem byt_of {l : List Int} (h : ∀ x ∈ l, (Lit.int .u8 x).wf = true) : Byt l := by
  intro x hx
  have := h x hx
  simp only [Lit.wf, IntKind.min, IntKind.max, IntKind.signed, IntKind.bits, Bool.and_eq_true, decide_eq_true_eq] at this
  simp at this; omega
theorem byt_rd {l : List Int} (hl : Byt l) (j : Nat) (hj : j < l.length) : 0 ≤ rd l (j : Int) ∧ rd l (j : Int) ≤ 255 := by
  rw [rdj, getD_at hj]; exact hl _ (List.getElem_mem hj)
theorem and255 (x : Int) : 0 ≤ Go.bits .and .u64 x 255 ∧ Go.bits .and .u64 x 255 ≤ 255 := by
  have e : ∀ z : Nat, z ≤ 255 → IntKind.u64.wrap (z : Int) = (z : Int) := by
    intro z hz; simp only [IntKind.wrap, IntKind.bits, IntKind.signed]; simp; omega
  have hz : ∀ y : Nat, y &&& 255 ≤ 255 := fun y => Nat.and_le_right
  have : ∃ z : Nat, z ≤ 255 ∧ Go.bits .and .u64 x 255 = (z : Int) := by
    refine ⟨_, hz (x % 18446744073709551616).toNat, ?_⟩
    rw [← e _ (hz _)]
    simp only [Go.bits, IntKind.bits]
    rfl
  obtain ⟨z, h1, h2⟩ := this
  rw [h2]; omega
theorem next_ok {l : List Int} (hl : Byt l) (a s : Int) (h0 : 0 ≤ a) (h1 : a ≤ 4611686018427387904) :
    ∃ r s', spec_l1Cur_next.f l a s = some (r, a + 1, s') ∧ 0 ≤ r ∧ r ≤ 255 := by
  unfold spec_l1Cur_next.f
  have e1 : wrap64 (a + 1) = a + 1 := w64 (by omega) (by omega)
  by_cases c : a < (l.length : Int)
  · have hb := byt_rd hl a.toNat (by omega)
    rw [show ((a.toNat : Nat) : Int) = a from by omega] at hb
    rw [if_pos c, if_pos h0, e1, if_pos (by omega), w64 (x := rd l a) (by omega) (by omega)]
    exact ⟨_, _, rfl, hb.1, hb.2⟩
  · rw [if_neg c, e1, if_neg (by omega)]
    refine ⟨_, _, rfl, ?_⟩
    have hb := and255 (IntKind.u64.wrap (IntKind.u64.wrap (IntKind.u64.wrap (s * 6364136223846793005)) + 1442695040888963407) / 1099511627776)
    rw [w64 (by omega) (by omega)]
    exact hb
theorem pick_ok {l : List Int} (hl : Byt l) (a s n : Int) (h0 : 0 ≤ a) (h1 : a ≤ 4611686018427387900) :
    ∃ r a' s', spec_l1Cur_pick.f l a s n = some (r, a', s') ∧ 0 ≤ r ∧ (r < n ∨ n ≤ 1 ∧ r = 0) ∧ a ≤ a' ∧ a' ≤ a + 2 := by
  unfold spec_l1Cur_pick.f
  by_cases c : n ≤ 1
  · rw [if_pos c]; exact ⟨_, _, _, rfl, by omega, .inr ⟨c, rfl⟩, by omega, by omega⟩
  · obtain ⟨r, s1, e1, g0, g1⟩ := next_ok hl a s h0 (by omega)
    rw [if_neg c, e1]
    simp only [Option.bind_some]
    by_cases c2 : n > 200
    · obtain ⟨r2, s2, e2, k0, k1⟩ := next_ok hl (a + 1) s1 (by omega) (by omega)
      rw [if_pos c2, e2]
      simp only [Option.bind_some]
      rw [if_neg (by omega), w64 (x := r * 256) (by omega) (by omega), w64 (by omega) (by omega)]
      exact ⟨_, _, _, rfl, Int.tmod_nonneg _ (by omega), .inl (Int.tmod_lt_of_pos _ (by omega)), by omega, by omega⟩
    · rw [if_neg c2, if_neg (by omega)]
      exact ⟨_, _, _, rfl, Int.tmod_nonneg _ (by omega), .inl (Int.tmod_lt_of_pos _ (by omega)), by omega, by omega⟩
theorem one_ok {l : List Int} (hl : Byt l) (a s n : Int) (h0 : 0 ≤ a) (h1 : a ≤ 4611686018427387900) :
    ∃ b a' s', spec_l1Cur_one.f l a s n = some (b, a', s') ∧ a ≤ a' ∧ a' ≤ a + 2 := by
  unfold spec_l1Cur_one.f
  obtain ⟨r, a', s', e, _, _, g⟩ := pick_ok hl a s n h0 h1
  rw [e]; exact ⟨_, _, _, rfl, g⟩
theorem among_ok {l : List Int} (hl : Byt l) (a s : Int) (x : List Int) (hx : 1 < x.length) (h0 : 0 ≤ a) (h1 : a ≤ 4611686018427387900) :
    ∃ r a' s', spec_l1Cur_among.f l a s x = some (r, a', s') ∧ r ∈ x ∧ a ≤ a' ∧ a' ≤ a + 2 := by
  unfold spec_l1Cur_among.f
  obtain ⟨r, a', s', e, g0, g1, g⟩ := pick_ok hl a s (x.length : Int) h0 h1
  have hr : r.toNat < x.length := by omega
  rw [e]
  simp only [Option.bind_some]
  rw [if_pos g0, if_pos (by omega)]
  refine ⟨_, _, _, rfl, ?_, g⟩
  rw [show r = ((r.toNat : Nat) : Int) from by omega, rdj, getD_at hr]
  exact List.getElem_mem hr

theorem weights_l {l : List Int} (hl : Byt l) (d : Nat) : ∀ (x : List Int) (p q : Int) (f : Bool) (a s : Int), x.length + d ≤ 200 → 0 ≤ a → a ≤ 1000 + 4 * x.length →
    ∃ r a' s', Ev (fun k => spec_l1Cur_weights.l0 k x (d : Int) p q f l a s) (r, a', s') ∧ r.length ≤ 200 ∧ 0 ≤ a' ∧ a' ≤ 2000 := by
  induction d with
  | zero =>
    intro x p q f a s hx h0 h1
    by_cases c : (x.length : Int) > 0
    · obtain ⟨b, a1, s1, e, u1, v1⟩ := one_ok hl a s 30 h0 (by omega)
      by_cases cb : b = true
      · obtain ⟨r2, a2, s2, e2, _, u2, v2⟩ := among_ok hl a1 s1 [0, 100000, 100001] (by simp) (by omega) (by omega)
        refine ⟨x.set 0 r2, a2, s2, Ev.step (f := fun _ => some (x.set 0 r2, a2, s2)) (fun k => ?_) (Ev.now _), by simp; omega, by omega, by omega⟩
        simp only [spec_l1Cur_weights.l0]
        rw [if_neg (by omega), if_pos c, e]
        simp only [Option.bind_some]
        rw [if_pos cb, e2]
        simp only [Option.bind_some]
        rw [if_pos (by omega)]; rfl
      · refine ⟨x, a1, s1, Ev.step (f := fun _ => some (x, a1, s1)) (fun k => ?_) (Ev.now _), by omega, by omega, by omega⟩
        simp only [spec_l1Cur_weights.l0]
        rw [if_neg (by omega), if_pos c, e]
        simp only [Option.bind_some]
        rw [if_neg cb]
    · refine ⟨x, a, s, Ev.step (f := fun _ => some (x, a, s)) (fun k => ?_) (Ev.now _), by omega, by omega, by omega⟩
      simp only [spec_l1Cur_weights.l0]
      rw [if_neg (by omega), if_neg c]
  | succ d ih =>
    intro x p q f a s hx h0 h1
    have ew : wrap64 (((d + 1 : Nat) : Int) - 1) = (d : Int) := by rw [w64 (by omega) (by omega)]; omega
    have el : ∀ y : Int, ((x ++ [y]).length : Int) = x.length + 1 := fun y => by simp
    by_cases cf : f = true
    · obtain ⟨r, a', s', g, g2⟩ := ih (x ++ [p]) q (wrap64 (p + q)) f a s (by simp; omega) h0 (by rw [el]; omega)
      refine ⟨r, a', s', Ev.step (fun k => ?_) g, g2⟩
      simp only [spec_l1Cur_weights.l0]
      rw [if_pos (by omega), if_pos cf, if_pos (by omega), ew]
    · obtain ⟨r1, a1, s1, e1, _, _, u1, v1⟩ := pick_ok hl a s 20 h0 (by omega)
      obtain ⟨r, a', s', g, g2⟩ := ih (x ++ [wrap64 (1 + r1)]) p q f a1 s1 (by simp; omega) (by omega) (by rw [el]; omega)
      refine ⟨r, a', s', Ev.step (fun k => ?_) g, g2⟩
      simp only [spec_l1Cur_weights.l0]
      rw [if_pos (by omega), if_neg cf, e1]
      simp only [Option.bind_some]
      rw [if_pos (by omega), ew]
theorem weights_ok {l : List Int} (hl : Byt l) (a s : Int) (h0 : 0 ≤ a) (h1 : a ≤ 900) : ∃ r a' s', Ev (fun k => spec_l1Cur_weights.f k l a s) (r, a', s') ∧ r.length ≤ 200 ∧ 0 ≤ a' ∧ a' ≤ 2000 := by
  unfold spec_l1Cur_weights.f
  obtain ⟨r1, a1, s1, e1, p1, q1, u1, v1⟩ := pick_ok hl a s 8 (by omega) (by omega)
  obtain ⟨b, a2, s2, e2, u2, v2⟩ := one_ok hl a1 s1 20 (by omega) (by omega)
  simp only [e1, e2, Option.bind_some]
  have go : ∀ (n : Nat) (a s : Int), n ≤ 200 → 0 ≤ a → a ≤ 990 → ∃ r a' s', Ev (fun k => spec_l1Cur_weights.j0 k [] (n : Int) l a s) (r, a', s') ∧ r.length ≤ 200 ∧ 0 ≤ a' ∧ a' ≤ 2000 := by
    intro n a s hn h0 h1
    obtain ⟨b, a1, s1, e1, u1, v1⟩ := one_ok hl a s 8 (by omega) (by omega)
    obtain ⟨r, a', s', g, g2⟩ := weights_l hl n [] 1 1 b a1 s1 (by simpa using hn) (by omega) (by simp; omega)
    refine ⟨r, a', s', Ev.step (fun k => ?_) g, g2⟩
    simp only [spec_l1Cur_weights.j0, e1, Option.bind_some]
  by_cases cb : b = true
  · obtain ⟨r3, a3, s3, e3, h3, u3, v3⟩ := among_ok hl a2 s2 [1, 24, 25] (by simp) (by omega) (by omega)
    simp at h3
    obtain ⟨r, a', s', g, g2⟩ := go r3.toNat a3 s3 (by omega) (by omega) (by omega)
    refine ⟨r, a', s', Ev.congr (fun k => ?_) g, g2⟩
    rw [if_pos cb, e3]
    simp only [Option.bind_some]
    rw [show ((r3.toNat : Nat) : Int) = r3 from by omega]
  · obtain ⟨r, a', s', g, g2⟩ := go (2 + r1).toNat a2 s2 (by omega) (by omega) (by omega)
    refine ⟨r, a', s', Ev.congr (fun k => ?_) g, g2⟩
    rw [if_neg cb, w64 (by omega) (by omega), show (((2 + r1).toNat : Nat) : Int) = 2 + r1 from by omega]
theorem l15Weights_l (l : List Int) (hn : l.length ≤ 1048576) (d : Nat) : ∀ (j : Nat), j + d = l.length → ∃ b, Ev (fun k => spec_l15Weights.l0 k l l (l.length : Int) (j : Int)) b ∧ (b = true → 2 ≤ l.length ∧ l.length ≤ 24) := by
  induction d with
  | zero =>
    intro j hj
    refine ⟨decide (2 ≤ (l.length : Int) ∧ (l.length : Int) ≤ 24), Ev.step (f := fun _ => some (decide (2 ≤ (l.length : Int) ∧ (l.length : Int) ≤ 24))) (fun k => ?_) (Ev.now _), fun h => by have := of_decide_eq_true h; omega⟩
    simp only [spec_l15Weights.l0]
    rw [if_neg (by omega), l1In_eq]; rfl
  | succ d ih =>
    intro j hj
    obtain ⟨b, g, g2⟩ := ih (j + 1) (by omega)
    by_cases c : 1 ≤ rd l (j : Int) ∧ rd l (j : Int) ≤ 100000
    · refine ⟨b, Ev.step (fun k => ?_) g, g2⟩
      simp only [spec_l15Weights.l0]
      rw [if_pos (by omega), if_pos (by omega), if_pos (by omega), l1In_eq, decide_eq_true c]
      simp only [Option.bind_some, if_true]
      rw [wj (n := l.length) (by omega) (by omega)]
    · refine ⟨false, Ev.step (f := fun _ => some false) (fun k => ?_) (Ev.now _), fun h => by cases h⟩
      simp only [spec_l15Weights.l0]
      rw [if_pos (by omega), if_pos (by omega), if_pos (by omega), l1In_eq, decide_eq_false c]
      simp
/-- Heaps whose symbols are below n, and not too many. -/
def HeapsOk (n B : Nat) (hs : List S91) : Prop := ∀ h ∈ hs, h.f1.length ≤ B ∧ ∀ i ∈ h.f1, 0 ≤ i ∧ i < (n : Int)
theorem rdT_at (xs : List S91) {j : Nat} (h : j < xs.length) : rd_T91 xs (j : Int) = xs[j] := by
  show xs.getD j _ = _
  exact getD_at h _
abbrev LR (n : Nat) (g : Nat → Option (List Int × Bool)) : Prop := ∃ r, Ev g r ∧ r.1.length = n
theorem best_l (n : Nat) (out : List Int) (hs : List S91) (hn : hs.length ≤ 100) (h0 : 1 ≤ hs.length) (x9 x : Int) (ps : List Int) (hB : HeapsOk n 1000000000 hs) (hp : ps.length ≤ 1000000000)
    (H : ∀ b, (hb : b < hs.length) → ∀ y : Int, LR n (fun k => spec_LengthsOf.l2 k out (hs.take b ++ hs.drop (b + 1)) (wrap64 (x9 + 1)) y (ps ++ hs[b].f1))) (d : Nat) :
    ∀ (j b : Nat), j + d = hs.length → b < hs.length → LR n (fun k => spec_LengthsOf.l3 k out hs x9 (b : Int) hs (hs.length : Int) (j : Int) x ps) := by
  induction d with
  | zero =>
    intro j b hj hb
    obtain ⟨r, g, g2⟩ := H b hb (wrap64 (x + hs[b].f0))
    have hm := hB _ (List.getElem_mem hb)
    refine ⟨r, Ev.step (fun k => ?_) g, g2⟩
    simp only [spec_LengthsOf.l3, Option.bind_some, rdT_at hs hb, List.nil_append, List.length_nil, List.length_take, List.length_drop, List.length_append, Int.toNat_natCast, wj hb (show hs.length ≤ 4611686018427387904 by omega)]
    rw [if_neg (by omega), if_pos (by omega), if_pos (by omega), if_pos (by omega), if_pos (by omega), if_pos (by omega), if_pos (by omega), if_pos (by omega), if_pos (by omega)]
  | succ d ih =>
    intro j b hj hb
    have hj2 : j < hs.length := by omega
    by_cases c : hs[j].f0 < hs[b].f0
    · obtain ⟨r, g, g2⟩ := ih (j + 1) j (by omega) hj2
      refine ⟨r, Ev.step (fun k => ?_) g, g2⟩
      simp only [spec_LengthsOf.l3]
      rw [if_pos (by omega), if_pos (by omega), if_pos (by omega), if_pos (by omega), if_pos (by omega), rdT_at hs hj2, rdT_at hs hb, if_pos c, wj hj2 (by omega)]
    · obtain ⟨r, g, g2⟩ := ih (j + 1) b (by omega) hb
      refine ⟨r, Ev.step (fun k => ?_) g, g2⟩
      simp only [spec_LengthsOf.l3]
      rw [if_pos (by omega), if_pos (by omega), if_pos (by omega), if_pos (by omega), if_pos (by omega), rdT_at hs hj2, rdT_at hs hb, if_neg c, wj hj2 (by omega)]
theorem add_l (n : Nat) (hs : List S91) (hn : hs.length ≤ 100) (x : Int) (ps : List Int) (hp : ps.length ≤ 1000000000) (hps : ∀ i ∈ ps, 0 ≤ i ∧ i < (n : Int))
    (H : ∀ out : List Int, out.length = n → LR n (fun k => spec_LengthsOf.l1 k out (hs ++ [⟨x, ps⟩]))) (d : Nat) :
    ∀ (j : Nat) (out : List Int), j + d = ps.length → out.length = n → LR n (fun k => spec_LengthsOf.l4 k out hs ps (ps.length : Int) (j : Int) x ps) := by
  induction d with
  | zero =>
    intro j out hj ho
    obtain ⟨r, g, g2⟩ := H out ho
    refine ⟨r, Ev.step (fun k => ?_) g, g2⟩
    simp only [spec_LengthsOf.l4]
    rw [if_neg (by omega), if_pos (by omega)]
  | succ d ih =>
    intro j out hj ho
    have hj2 : j < ps.length := by omega
    have hm := hps _ (List.getElem_mem hj2)
    obtain ⟨r, g, g2⟩ := ih (j + 1) (out.set (ps[j]).toNat (wrap64 (rd out ps[j] + 1))) (by omega) (by simpa using ho)
    refine ⟨r, Ev.step (fun k => ?_) g, g2⟩
    simp only [spec_LengthsOf.l4]
    rw [if_pos (by omega), if_pos (by omega), if_pos (by omega), rdj, getD_at hj2, if_pos hm.1, if_pos (by omega), wj hj2 (by omega)]
theorem HeapsOk.cut {n B : Nat} {hs : List S91} (h : HeapsOk n B hs) (b : Nat) : HeapsOk n B (hs.take b ++ hs.drop (b + 1)) := by
  intro x hx
  rcases List.mem_append.1 hx with hx | hx
  · exact h x (List.mem_of_mem_take hx)
  · exact h x (List.mem_of_mem_drop hx)
theorem merge_l (n : Nat) (c : Nat) : ∀ (B : Nat) (hs : List S91) (out : List Int), hs.length = c → c ≤ 24 → B * 2 ^ c ≤ 1000000000 → HeapsOk n B hs → out.length = n → LR n (fun k => spec_LengthsOf.l1 k out hs) := by
  induction c with
  | zero =>
    intro B hs out hc _ _ _ ho
    refine ⟨(out, true), Ev.step (f := fun _ => some (out, true)) (fun k => ?_) (Ev.now _), ho⟩
    simp only [spec_LengthsOf.l1]
    rw [if_neg (by omega)]
  | succ c ih =>
    intro B hs out hc hc24 hB hh ho
    by_cases c1 : c = 0
    · refine ⟨(out, true), Ev.step (f := fun _ => some (out, true)) (fun k => ?_) (Ev.now _), ho⟩
      simp only [spec_LengthsOf.l1]
      rw [if_neg (by omega)]
    have hP : 1 ≤ 2 ^ c := Nat.one_le_two_pow
    have hB2 : 2 * B ≤ 2 * B * 2 ^ c := Nat.le_mul_of_pos_right _ hP
    have hB3 : 2 * B * 2 ^ c = B * 2 ^ (c + 1) := by rw [Nat.pow_succ, Nat.mul_comm 2 B, Nat.mul_assoc, Nat.mul_comm 2]
    have hBig : ∀ {hs : List S91}, HeapsOk n B hs → HeapsOk n 1000000000 hs := fun h x hx => ⟨Nat.le_trans (h x hx).1 (by omega), (h x hx).2⟩
    have second : ∀ b, (hb : b < hs.length) → ∀ y : Int, LR n (fun k => spec_LengthsOf.l2 k out (hs.take b ++ hs.drop (b + 1)) (wrap64 (0 + 1)) y ([] ++ hs[b].f1)) := by
      intro b hb y
      have hm := hh _ (List.getElem_mem hb)
      generalize hq : hs.take b ++ hs.drop (b + 1) = hs2
      have hl2 : hs2.length = c := by rw [← hq]; simp; omega
      have hh2 : HeapsOk n B hs2 := by rw [← hq]; exact hh.cut b
      have third : ∀ b2, (hb2 : b2 < hs2.length) → ∀ y2 : Int, LR n (fun k => spec_LengthsOf.l2 k out (hs2.take b2 ++ hs2.drop (b2 + 1)) (wrap64 (1 + 1)) y2 (([] ++ hs[b].f1) ++ hs2[b2].f1)) := by
        intro b2 hb2 y2
        have hm2 := hh2 _ (List.getElem_mem hb2)
        have hl3 : (hs2.take b2 ++ hs2.drop (b2 + 1)).length = c - 1 := by simp; omega
        have hh3 : HeapsOk n (2 * B) (hs2.take b2 ++ hs2.drop (b2 + 1)) := fun x hx => ⟨Nat.le_trans ((hh2.cut b2) x hx).1 (by omega), ((hh2.cut b2) x hx).2⟩
        generalize hs2.take b2 ++ hs2.drop (b2 + 1) = hs3 at hl3 hh3 ⊢
        have hps : ∀ i ∈ ([] ++ hs[b].f1) ++ hs2[b2].f1, 0 ≤ i ∧ i < (n : Int) := by
          intro i hi
          rw [List.nil_append] at hi
          rcases List.mem_append.1 hi with hi | hi
          · exact hm.2 i hi
          · exact hm2.2 i hi
        have hpl : (([] ++ hs[b].f1) ++ hs2[b2].f1).length ≤ 2 * B := by simp; omega
        generalize ([] ++ hs[b].f1) ++ hs2[b2].f1 = ps at hps hpl ⊢
        obtain ⟨r, g, g2⟩ := add_l n hs3 (by omega) y2 ps (by omega) hps (fun out' ho' => by
          refine ih (2 * B) (hs3 ++ [⟨y2, ps⟩]) out' (by simp; omega) (by omega) (by omega) ?_ ho'
          intro x hx
          rcases List.mem_append.1 hx with hx | hx
          · exact hh3 x hx
          · rw [List.mem_singleton.1 hx]; exact ⟨hpl, hps⟩) ps.length 0 out (by omega) ho
        refine ⟨r, Ev.step (fun k => ?_) g, g2⟩
        simp only [spec_LengthsOf.l2]
        rw [if_neg (by rw [w64 (by omega) (by omega)]; omega)]; rfl
      obtain ⟨r, g, g2⟩ := best_l n out hs2 (by omega) (by omega) 1 y ([] ++ hs[b].f1) (hBig hh2) (by simp; omega) third hs2.length 0 0 (by omega) (by omega)
      refine ⟨r, Ev.step (fun k => ?_) g, g2⟩
      have e01 : wrap64 (0 + 1) = 1 := by rw [w64 (by omega) (by omega)]; rfl
      simp only [spec_LengthsOf.l2, e01]
      rw [if_pos (by omega)]; rfl
    obtain ⟨r, g, g2⟩ := best_l n out hs (by omega) (by omega) 0 0 [] (hBig hh) (by simp) second hs.length 0 0 (by omega) (by omega)
    refine ⟨r, Ev.step (f := fun k => spec_LengthsOf.l2 k out hs 0 0 []) (fun k => ?_) (Ev.step (fun k => ?_) g), g2⟩
    · simp only [spec_LengthsOf.l1]
      rw [if_pos (by omega)]
    · simp only [spec_LengthsOf.l2]
      rw [if_pos (by omega)]; rfl
theorem heaps_l (w out : List Int) (n : Nat) (hw : w.length = n) (hn : n ≤ 24) (ho : out.length = n) (d : Nat) : ∀ (j : Nat) (hs : List S91), j + d = n → hs.length = j → HeapsOk n 1 hs →
    LR n (fun k => spec_LengthsOf.l0 k out hs w (w.length : Int) (j : Int)) := by
  induction d with
  | zero =>
    intro j hs hj hl hh
    have hp : 2 ^ n ≤ 2 ^ 24 := Nat.pow_le_pow_right (by decide) hn
    obtain ⟨r, g, g2⟩ := merge_l n n 1 hs out (by omega) hn (by omega) hh ho
    refine ⟨r, Ev.step (fun k => ?_) g, g2⟩
    simp only [spec_LengthsOf.l0]
    rw [if_neg (by omega)]
  | succ d ih =>
    intro j hs hj hl hh
    obtain ⟨r, g, g2⟩ := ih (j + 1) (hs ++ [⟨rd w (j : Int), [(j : Int)]⟩]) (by omega) (by simp [hl]) (by
      intro x hx
      rcases List.mem_append.1 hx with hx | hx
      · exact hh x hx
      · rw [List.mem_singleton.1 hx]
        refine ⟨by simp, fun i hi => ?_⟩
        rw [List.mem_singleton.1 hi]; omega)
    refine ⟨r, Ev.step (fun k => ?_) g, g2⟩
    simp only [spec_LengthsOf.l0]
    rw [if_pos (by omega), if_pos (by omega), if_pos (by omega), if_pos (by omega), wj (n := n) (by omega) (by omega)]
theorem lengthsOf_ok (w : List Int) (hw : w.length ≤ 1048576) : ∃ r, Ev (fun k => spec_LengthsOf.f k w) r ∧ r.1.length ≤ 200 ∧ (r.2 = true → r.1.length = w.length) := by
  unfold spec_LengthsOf.f
  obtain ⟨b, g, g2⟩ := l15Weights_l w hw w.length 0 (by omega)
  cases b with
  | false => exact ⟨([], false), Ev.bind (g := fun k => spec_l15Weights.f k w) g (Ev.congr (fun k => by simp) (Ev.now _)), by simp, by simp⟩
  | true =>
    have h2 := g2 rfl
    obtain ⟨r, e, e2⟩ := heaps_l w (List.replicate w.length 0) w.length rfl (by omega) (by simp) w.length 0 [] (by omega) rfl (fun x hx => absurd hx (by simp))
    refine ⟨r, Ev.bind (g := fun k => spec_l15Weights.f k w) g (Ev.congr (fun k => ?_) e), by omega, fun _ => e2⟩
    rw [if_pos rfl, if_pos (by omega), Int.toNat_natCast, if_pos (by omega)]; rfl
theorem lengths_l {l : List Int} (hl : Byt l) (d : Nat) : ∀ (x : List Int) (a s : Int), 1 ≤ x.length + d → x.length + d ≤ 200 → 0 ≤ a → a ≤ 3000 + 4 * x.length →
    ∃ r a' s', Ev (fun k => spec_l1Cur_lengths.l0 k x (d : Int) l a s) (r, a', s') ∧ 1 ≤ r.length ∧ r.length ≤ 200 ∧ 0 ≤ a' ∧ a' ≤ 4000 := by
  induction d with
  | zero =>
    intro x a s h1 hx h0 ha
    obtain ⟨b, a1, s1, e, u1, v1⟩ := one_ok hl a s 12 h0 (by omega)
    by_cases cb : b = true
    · obtain ⟨r2, a2, s2, e2, _, u2, v2⟩ := among_ok hl a1 s1 [-1, 23, 24] (by simp) (by omega) (by omega)
      refine ⟨x.set 0 r2, a2, s2, Ev.step (f := fun _ => some (x.set 0 r2, a2, s2)) (fun k => ?_) (Ev.now _), by simp; omega, by simp; omega, by omega, by omega⟩
      simp only [spec_l1Cur_lengths.l0]
      rw [if_neg (by omega), e]
      simp only [Option.bind_some]
      rw [if_pos cb, e2]
      simp only [Option.bind_some]
      rw [if_pos (by omega)]; rfl
    · refine ⟨x, a1, s1, Ev.step (f := fun _ => some (x, a1, s1)) (fun k => ?_) (Ev.now _), by omega, by omega, by omega, by omega⟩
      simp only [spec_l1Cur_lengths.l0]
      rw [if_neg (by omega), e]
      simp only [Option.bind_some]
      rw [if_neg cb]
  | succ d ih =>
    intro x a s h1 hx h0 ha
    have ew : wrap64 (((d + 1 : Nat) : Int) - 1) = (d : Int) := by rw [w64 (by omega) (by omega)]; omega
    obtain ⟨r1, a1, s1, e1, _, _, u1, v1⟩ := pick_ok hl a s 6 h0 (by omega)
    obtain ⟨r, a', s', g, g2⟩ := ih (x ++ [r1]) a1 s1 (by simp; omega) (by simp; omega) (by omega) (by simp; omega)
    refine ⟨r, a', s', Ev.step (fun k => ?_) g, g2⟩
    simp only [spec_l1Cur_lengths.l0]
    rw [if_pos (by omega), e1]
    simp only [Option.bind_some]
    rw [if_pos (by omega), ew]
theorem lengths_ok {l : List Int} (hl : Byt l) (a s : Int) (h0 : 0 ≤ a) (h1 : a ≤ 800) : ∃ r a' s', Ev (fun k => spec_l1Cur_lengths.f k l a s) (r, a', s') ∧ r.length ≤ 200 ∧ 0 ≤ a' ∧ a' ≤ 4000 := by
  unfold spec_l1Cur_lengths.f
  obtain ⟨b, a1, s1, e1, u1, v1⟩ := one_ok hl a s 4 (by omega) (by omega)
  simp only [e1, Option.bind_some]
  have go : ∀ (a s : Int), 0 ≤ a → a ≤ 2900 → ∃ r a' s', Ev (fun k => spec_l1Cur_lengths.j0 k l a s) (r, a', s') ∧ r.length ≤ 200 ∧ 0 ≤ a' ∧ a' ≤ 4000 := by
    intro a s h0 h1
    obtain ⟨r1, a1, s1, e1, p1, q1, u1, v1⟩ := pick_ok hl a s 7 (by omega) (by omega)
    obtain ⟨r, a', s', g, _, g2⟩ := lengths_l hl (1 + r1).toNat [] a1 s1 (by simp; omega) (by simp; omega) (by omega) (by simp; omega)
    refine ⟨r, a', s', Ev.step (fun k => ?_) g, g2⟩
    simp only [spec_l1Cur_lengths.j0, e1, Option.bind_some]
    rw [w64 (by omega) (by omega), show (((1 + r1).toNat : Nat) : Int) = 1 + r1 from by omega]
  by_cases cb : b = true
  · obtain ⟨r, a', s', g, g2⟩ := go a1 s1 (by omega) (by omega)
    exact ⟨r, a', s', Ev.congr (fun k => by rw [if_pos cb]) g, g2⟩
  · obtain ⟨w, a2, s2, g2, k0, k1, k2⟩ := weights_ok hl a1 s1 (by omega) (by omega)
    obtain ⟨q, g3, k3, _⟩ := lengthsOf_ok w (by omega)
    by_cases c : q.2 = true
    · refine ⟨q.1, a2, s2, ?_, k3, by omega, by omega⟩
      simp only [if_neg cb]
      refine Ev.bind g2 (Ev.bind g3 ?_)
      simp only [if_pos c]
      exact Ev.now _
    · obtain ⟨r, a', s', g, g4⟩ := go a2 s2 (by omega) (by omega)
      refine ⟨r, a', s', ?_, g4⟩
      simp only [if_neg cb]
      refine Ev.bind g2 (Ev.bind g3 ?_)
      simp only [if_neg c]
      exact g

/-! ### the draws of bits end -/
theorem drawEnc_l {l : List Int} (hl : Byt l) (x5 : List Int) (d : Nat) : ∀ (x : List Int) (a s : Int), x.length + d ≤ 300 → 0 ≤ a → a ≤ 5000 + 4 * x.length →
    ∃ y, Ev (fun k => spec_DrawEncodeBits.l0 k x5 x (d : Int) l a s) (x5, y) ∧ y.length ≤ 300 := by
  induction d with
  | zero =>
    intro x a s hx h0 ha
    by_cases c : (x.length : Int) > 0
    · obtain ⟨b, a1, s1, e, u1, v1⟩ := one_ok hl a s 20 h0 (by omega)
      by_cases cb : b = true
      · obtain ⟨r2, a2, s2, e2, _, _, u2, v2⟩ := pick_ok hl a1 s1 2 (by omega) (by omega)
        refine ⟨x.set 0 (wrap64 ((x5.length : Int) - r2)), Ev.step (f := fun _ => some (x5, x.set 0 (wrap64 ((x5.length : Int) - r2)))) (fun k => ?_) (Ev.now _), by simp; omega⟩
        simp only [spec_DrawEncodeBits.l0]
        rw [if_neg (by omega), if_pos c, e]
        simp only [Option.bind_some]
        rw [if_pos cb, e2]
        simp only [Option.bind_some]
        rw [if_pos (by omega)]; rfl
      · refine ⟨x, Ev.step (f := fun _ => some (x5, x)) (fun k => ?_) (Ev.now _), by omega⟩
        simp only [spec_DrawEncodeBits.l0]
        rw [if_neg (by omega), if_pos c, e]
        simp only [Option.bind_some]
        rw [if_neg cb]
    · refine ⟨x, Ev.step (f := fun _ => some (x5, x)) (fun k => ?_) (Ev.now _), by omega⟩
      simp only [spec_DrawEncodeBits.l0]
      rw [if_neg (by omega), if_neg c]
  | succ d ih =>
    intro x a s hx h0 ha
    have ew : wrap64 (((d + 1 : Nat) : Int) - 1) = (d : Int) := by rw [w64 (by omega) (by omega)]; omega
    obtain ⟨r1, a1, s1, e1, _, _, u1, v1⟩ := pick_ok hl a s (x5.length : Int) h0 (by omega)
    obtain ⟨y, g, g2⟩ := ih (x ++ [r1]) a1 s1 (by simp; omega) (by omega) (by simp; omega)
    refine ⟨y, Ev.step (fun k => ?_) g, g2⟩
    simp only [spec_DrawEncodeBits.l0]
    rw [if_pos (by omega), e1]
    simp only [Option.bind_some]
    rw [if_pos (by omega), ew]
theorem drawEnc_ok {l : List Int} (hl : Byt l) : ∃ x5 y, Ev (fun k => spec_DrawEncodeBits.f k l) (x5, y) ∧ x5.length ≤ 200 ∧ y.length ≤ 300 := by
  unfold spec_DrawEncodeBits.f
  obtain ⟨x5, a', s', g, g2, g3, g4⟩ := lengths_ok hl 0 0 (by omega) (by omega)
  obtain ⟨r1, a1, s1, e1, p1, q1, u1, v1⟩ := pick_ok hl a' s' 12 (by omega) (by omega)
  obtain ⟨b, a2, s2, e2, u2, v2⟩ := one_ok hl a1 s1 20 (by omega) (by omega)
  by_cases cb : b = true
  · obtain ⟨r3, a3, s3, e3, p3, q3, u3, v3⟩ := pick_ok hl a2 s2 3 (by omega) (by omega)
    obtain ⟨y, k1, k2⟩ := drawEnc_l hl x5 (199 + r3).toNat [] a3 s3 (by simp; omega) (by omega) (by simp; omega)
    rw [show (((199 + r3).toNat : Nat) : Int) = 199 + r3 by omega] at k1
    refine ⟨x5, y, Ev.bind g (Ev.congr (f := fun k => spec_DrawEncodeBits.j0 k x5 [] (199 + r3) l a3 s3) (fun k => ?_) (Ev.step (fun k => by simp only [spec_DrawEncodeBits.j0]) k1)), g2, k2⟩
    simp only [e1, e2, Option.bind_some]
    rw [if_pos cb, e3]
    simp only [Option.bind_some]
    rw [w64 (by omega) (by omega)]
  · obtain ⟨y, k1, k2⟩ := drawEnc_l hl x5 r1.toNat [] a2 s2 (by simp; omega) (by omega) (by simp; omega)
    rw [show ((r1.toNat : Nat) : Int) = r1 by omega] at k1
    refine ⟨x5, y, Ev.bind g (Ev.congr (f := fun k => spec_DrawEncodeBits.j0 k x5 [] r1 l a2 s2) (fun k => ?_) (Ev.step (fun k => by simp only [spec_DrawEncodeBits.j0]) k1)), g2, k2⟩
    simp only [e1, e2, Option.bind_some]
    rw [if_neg cb]
theorem of2_ok {l : List Int} (hl : Byt l) (a s : Int) (h0 : 0 ≤ a) (h1 : a ≤ 4611686018427387900) :
    ∃ t a' s', spec_l1Cur_of.f l a s ([(⟨#[48]⟩ : ByteArray), (⟨#[49]⟩ : ByteArray)] : List ByteArray) = some (t, a', s') ∧ t.size = 1 ∧ a ≤ a' ∧ a' ≤ a + 2 := by
  unfold spec_l1Cur_of.f
  obtain ⟨r, a', s', e, g0, g1, g⟩ := pick_ok hl a s (2 : Int) h0 h1
  have e' : spec_l1Cur_pick.f l a s ((([(⟨#[48]⟩ : ByteArray), (⟨#[49]⟩ : ByteArray)] : List ByteArray).length : Nat) : Int) = some (r, a', s') := e
  rw [e']
  have hr : r = 0 ∨ r = 1 := by omega
  simp only [Option.bind_some]
  rw [if_pos g0, if_pos (show r < ((([(⟨#[48]⟩ : ByteArray), (⟨#[49]⟩ : ByteArray)] : List ByteArray).length : Nat) : Int) by show r < 2; omega)]
  refine ⟨_, _, _, rfl, ?_, g⟩
  rcases hr with e | e <;> subst e <;> rfl
theorem drawPack_l {l : List Int} (hl : Byt l) (d : Nat) : ∀ (x : ByteArray) (a s : Int), x.size + d ≤ 100 → 0 ≤ a → a ≤ 1000 + 4 * x.size →
    ∃ y, Ev (fun k => spec_DrawPackBits.l0 k x (d : Int) l a s) y ∧ y.size ≤ 101 := by
  induction d with
  | zero =>
    intro x a s hx h0 ha
    obtain ⟨b, a1, s1, e, u1, v1⟩ := one_ok hl a s 20 h0 (by omega)
    by_cases cb : b = true
    · refine ⟨x ++ (⟨#[120]⟩ : ByteArray), Ev.step (f := fun _ => some (x ++ (⟨#[120]⟩ : ByteArray))) (fun k => ?_) (Ev.now _), by rw [ByteArray.size_append]; show x.size + 1 ≤ _; omega⟩
      simp only [spec_DrawPackBits.l0]
      rw [if_neg (by omega), e]
      simp only [Option.bind_some]
      rw [if_pos cb, if_pos (by omega)]
    · refine ⟨x, Ev.step (f := fun _ => some x) (fun k => ?_) (Ev.now _), by omega⟩
      simp only [spec_DrawPackBits.l0]
      rw [if_neg (by omega), e]
      simp only [Option.bind_some]
      rw [if_neg cb]
  | succ d ih =>
    intro x a s hx h0 ha
    have ew : wrap64 (((d + 1 : Nat) : Int) - 1) = (d : Int) := by rw [w64 (by omega) (by omega)]; omega
    obtain ⟨t, a1, s1, e1, ht, u1, v1⟩ := of2_ok hl a s h0 (by omega)
    have es : (x ++ t).size = x.size + 1 := by rw [ByteArray.size_append, ht]
    obtain ⟨y, g, g2⟩ := ih (x ++ t) a1 s1 (by omega) (by omega) (by omega)
    refine ⟨y, Ev.step (fun k => ?_) g, g2⟩
    simp only [spec_DrawPackBits.l0]
    rw [if_pos (by omega), e1]
    simp only [Option.bind_some]
    rw [if_pos (by omega), ew]
theorem drawPack_ok {l : List Int} (hl : Byt l) : ∃ y, Ev (fun k => spec_DrawPackBits.f k l) y ∧ y.size ≤ 101 := by
  unfold spec_DrawPackBits.f
  obtain ⟨r1, a1, s1, e1, p1, q1, u1, v1⟩ := pick_ok hl 0 0 40 (by omega) (by omega)
  obtain ⟨y, k1, k2⟩ := drawPack_l hl r1.toNat ⟨#[]⟩ a1 s1 (by show 0 + _ ≤ _; omega) (by omega) (by show _ ≤ 1000 + 4 * ((0 : Nat) : Int); omega)
  rw [show ((r1.toNat : Nat) : Int) = r1 by omega] at k1
  exact ⟨y, Ev.congr (fun k => by rw [e1]; rfl) k1, k2⟩
theorem ext_size (b : ByteArray) (i j : Nat) : (b.extract i j).size = min j b.size - i := ByteArray.size_extract
theorem spoilt_l {l : List Int} (hl : Byt l) (x2 : ByteArray) (h2 : 1 ≤ x2.size) (d : Nat) : ∀ (x : ByteArray) (a s : Int), x.size + d ≤ 1000000 → d ≤ 10 → 0 ≤ a → a ≤ 1000 - 10 * d →
    ∃ y a' s', Ev (fun k => spec_l1Cur_spoilt.l0 k x x2 (d : Int) l a s) (y, a', s') ∧ y.size ≤ x.size + d := by
  induction d with
  | zero =>
    intro x a s hx hd h0 ha
    refine ⟨x, a, s, Ev.step (f := fun k => spec_l1Cur_spoilt.j1 k x x2 0 false l a s) (fun k => ?_) (Ev.step (f := fun _ => some (x, a, s)) (fun k => ?_) (Ev.now _)), by omega⟩
    · simp only [spec_l1Cur_spoilt.l0]; rw [if_neg (by omega)]; rfl
    · simp only [spec_l1Cur_spoilt.j1]; rw [if_neg (by simp)]
  | succ d ih =>
    intro x a s hx hd h0 ha
    have ew : wrap64 (((d + 1 : Nat) : Int) - 1) = (d : Int) := by rw [w64 (by omega) (by omega)]; omega
    by_cases c : (x.size : Int) > 0
    · obtain ⟨r1, a1, s1, e1, p1, q1, u1, v1⟩ := pick_ok hl a s (x.size : Int) h0 (by omega)
      obtain ⟨r2, a2, s2, e2, p2, q2, u2, v2⟩ := pick_ok hl a1 s1 (x2.size : Int) (by omega) (by omega)
      obtain ⟨r3, a3, s3, e3, p3, q3, u3, v3⟩ := pick_ok hl a2 s2 3 (by omega) (by omega)
      have z1 : (strOfNums [bt x2 r2]).size = 1 := strOfNums_size _
      have z2 : (x.extract 0 r1.toNat).size = r1.toNat := by rw [ext_size]; omega
      have z3 : (x.extract r1.toNat x.size).size = x.size - r1.toNat := by rw [ext_size]; omega
      have wr : wrap64 (r1 + 1) = r1 + 1 := w64 (by omega) (by omega)
      have z4 : (x.extract (r1 + 1).toNat x.size).size = x.size - (r1 + 1).toNat := by rw [ext_size]; omega
      have h1 : ∀ k, spec_l1Cur_spoilt.l0 (k + 1) x x2 ((d + 1 : Nat) : Int) l a s = spec_l1Cur_spoilt.j1 k x x2 ((d + 1 : Nat) : Int) true l a s := fun k => by
        simp only [spec_l1Cur_spoilt.l0]; rw [if_pos (by omega), decide_eq_true c]
      by_cases c0 : r3 = 0
      · have zz : ((x.extract 0 r1.toNat ++ strOfNums [bt x2 r2]) ++ x.extract r1.toNat x.size).size ≤ x.size + 1 := by rw [ByteArray.size_append, ByteArray.size_append]; omega
        obtain ⟨y, a', s', g, g2⟩ := ih ((x.extract 0 r1.toNat ++ strOfNums [bt x2 r2]) ++ x.extract r1.toNat x.size) a3 s3 (by omega) (by omega) (by omega) (by omega)
        refine ⟨y, a', s', Ev.step h1 (Ev.step (fun k => ?_) g), by omega⟩
        simp only [spec_l1Cur_spoilt.j1, if_true, e1, e2, e3, Option.bind_some, ew]
        rw [if_pos (by omega), if_pos (by omega), if_pos c0, if_pos (by omega), if_pos (by omega), if_pos (by omega), if_pos (by rw [ByteArray.size_append]; omega)]
      · by_cases c1 : r3 = 1
        · have zz : ((x.extract 0 r1.toNat ++ strOfNums [bt x2 r2]) ++ x.extract (r1 + 1).toNat x.size).size ≤ x.size + 1 := by rw [ByteArray.size_append, ByteArray.size_append]; omega
          obtain ⟨y, a', s', g, g2⟩ := ih ((x.extract 0 r1.toNat ++ strOfNums [bt x2 r2]) ++ x.extract (r1 + 1).toNat x.size) a3 s3 (by omega) (by omega) (by omega) (by omega)
          refine ⟨y, a', s', Ev.step h1 (Ev.step (fun k => ?_) g), by omega⟩
          simp only [spec_l1Cur_spoilt.j1, if_true, e1, e2, e3, Option.bind_some, ew, wr]
          rw [if_pos (by omega), if_pos (by omega), if_neg c0, if_pos c1, if_pos (by omega), if_pos (by omega), if_pos (by omega), if_pos (by omega), if_pos (by omega), if_pos (by rw [ByteArray.size_append]; omega)]
        · have zz : (x.extract 0 r1.toNat ++ x.extract (r1 + 1).toNat x.size).size ≤ x.size + 1 := by rw [ByteArray.size_append]; omega
          obtain ⟨y, a', s', g, g2⟩ := ih (x.extract 0 r1.toNat ++ x.extract (r1 + 1).toNat x.size) a3 s3 (by omega) (by omega) (by omega) (by omega)
          refine ⟨y, a', s', Ev.step h1 (Ev.step (fun k => ?_) g), by omega⟩
          simp only [spec_l1Cur_spoilt.j1, if_true, e1, e2, e3, Option.bind_some, ew, wr]
          rw [if_pos (by omega), if_pos (by omega), if_neg c0, if_neg c1, if_pos (by omega), if_pos (by omega), if_pos (by omega), if_pos (by omega), if_pos (by omega)]
    · refine ⟨x, a, s, Ev.step (f := fun k => spec_l1Cur_spoilt.j1 k x x2 ((d + 1 : Nat) : Int) false l a s) (fun k => ?_) (Ev.step (f := fun _ => some (x, a, s)) (fun k => ?_) (Ev.now _)), by omega⟩
      · simp only [spec_l1Cur_spoilt.l0]; rw [if_pos (by omega), decide_eq_false c]
      · simp only [spec_l1Cur_spoilt.j1]; rw [if_neg (by simp)]
theorem spoilt_ok {l : List Int} (hl : Byt l) (x x2 : ByteArray) (hx : x.size ≤ 5000) (h2 : 1 ≤ x2.size) (a s : Int) (h0 : 0 ≤ a) (ha : a ≤ 900) :
    ∃ y a' s', Ev (fun k => spec_l1Cur_spoilt.f k l a s x x2) (y, a', s') ∧ y.size ≤ 5003 := by
  unfold spec_l1Cur_spoilt.f
  obtain ⟨r1, a1, s1, e1, p1, q1, u1, v1⟩ := pick_ok hl a s 3 (by omega) (by omega)
  obtain ⟨y, a', s', g, g2⟩ := spoilt_l hl x2 h2 r1.toNat x a1 s1 (by omega) (by omega) (by omega) (by omega)
  rw [show ((r1.toNat : Nat) : Int) = r1 by omega] at g
  exact ⟨y, a', s', Ev.congr (fun k => by rw [e1]; rfl) g, by omega⟩
theorem drawDec_ok {l : List Int} (hl : Byt l) : ∃ x5 t, Ev (fun k => spec_DrawDecodeBits.f k l) (x5, t) ∧ x5.length ≤ 200 ∧ t.size ≤ 5003 := by
  unfold spec_DrawDecodeBits.f
  obtain ⟨x5, y, g1, g2, g3⟩ := drawEnc_ok hl
  obtain ⟨r, e1, _, e3, _⟩ := EncodeBits_both x5 y (by omega) (by omega)
  obtain ⟨b, a1, s1, e, u1, v1⟩ := one_ok hl 0 0 3 (by omega) (by omega)
  by_cases cb : b = true
  · obtain ⟨t, a', s', g, g4⟩ := spoilt_ok hl r.1 ⟨#[48, 49, 120]⟩ (by omega) (by decide) a1 s1 (by omega) (by omega)
    refine ⟨x5, t, Ev.bind g1 (Ev.bind e1 ?_), g2, g4⟩
    simp only [e, Option.bind_some, if_pos cb]
    exact Ev.bind g (Ev.now _)
  · refine ⟨x5, r.1, Ev.bind g1 (Ev.bind e1 ?_), g2, by omega⟩
    simp only [e, Option.bind_some, if_neg cb]
    exact Ev.now _

theorem sameInts_l (l : List Int) (hn : l.length ≤ 1048576) (d : Nat) : ∀ (j : Nat), j + d = l.length → Ev (fun k => laws_sameInts.l0 k l l (l.length : Int) (j : Int)) true := by
  induction d with
  | zero =>
    intro j hj
    refine Ev.step (f := fun _ => some true) (fun k => ?_) (Ev.now _)
    simp only [laws_sameInts.l0]; rw [if_neg (by omega)]
  | succ d ih =>
    intro j hj
    refine Ev.step (fun k => ?_) (ih (j + 1) (by omega))
    simp only [laws_sameInts.l0]
    rw [if_pos (by omega), if_pos (by omega), if_pos (by omega), if_pos (by omega), if_pos trivial, wj (n := l.length) (by omega) (by omega)]
theorem sameInts_ev (l : List Int) (hn : l.length ≤ 1048576) : Ev (fun k => laws_sameInts.f k l l) true := by
  unfold laws_sameInts.f
  simp only [if_true]
  exact sameInts_l l hn l.length 0 (by omega)
theorem bits_second {l1 : List Int} (b1 : Byt l1) : Ev (fun k => laws_FnBits.j1 k l1) true := by
  obtain ⟨t, d1, d2⟩ := drawPack_ok b1
  obtain ⟨r, p2, p1, ok⟩ := PackBits_both t (by omega)
  suffices J : Ev (fun k => (spec_DrawPackBits.f k l1).bind fun t389 => (impl_PackBits.f k t389).bind fun bt390 => (spec_PackBits.f k t389).bind fun bt393 => if (bt390.2.2 != bt393.2.2) = true then (laws_FnBits.j2 k l1 t389 bt390.1 bt390.2.1 bt390.2.2 true) else (laws_FnBits.j2 k l1 t389 bt390.1 bt390.2.1 bt390.2.2 (bt390.2.1 != bt393.2.1))) true from Ev.step (fun k => by simp only [laws_FnBits.j1]) J
  refine Ev.bind d1 (Ev.bind p1 (Ev.bind p2 ?_))
  simp only [bne_self_eq_false, Bool.false_eq_true, if_false]
  by_cases c : r.2.2 = true
  · obtain ⟨u1, u2, _⟩ := round_pack t r ok c
    obtain ⟨x5, s, g1, g2, g3⟩ := drawDec_ok b1
    obtain ⟨q, q2, q1, q3⟩ := DecodeBits_both x5 s (by omega) (by omega)
    refine Ev.step (f := fun k => (impl_UnpackBits.f k r.1 r.2.1).bind fun bt396 => ((spec_DrawDecodeBits.f k l1).bind fun bt398 => ((impl_DecodeBits.f k bt398.1 bt398.2).bind fun bt402 => ((spec_DecodeBits.f k bt398.1 bt398.2).bind fun bt406 => (if bt396.2 = true then (if bt396.1.toList = t.toList then (if (bt402.2 == bt406.2) = true then ((laws_sameInts.f k bt402.1 bt406.1).bind fun t410 => (some t410)) else (none)) else (none)) else (none)))))) (fun k => ?_) ?_
    · simp only [laws_FnBits.j2]
      rw [if_neg (by simp), if_pos c]
      simp only [if_pos u2]
    · refine Ev.bind u1 (Ev.bind g1 (Ev.bind q1 (Ev.bind q2 ?_)))
      simp only [if_true, beq_self_eq_true]
      exact Ev.bind (sameInts_ev q.1 q3) (Ev.now _)
  · refine Ev.step (f := fun _ => some true) (fun k => ?_) (Ev.now _)
    simp only [laws_FnBits.j2]
    rw [if_neg (by simp), if_neg c]
    rcases ok with h | ⟨_, _, p, m, _, _, h⟩
    · subst h
      show some ((⟨#[]⟩ : ByteArray).toList == ([] : List UInt8)) = some true
      rw [ByteArray.toList_eq]; rfl
    · exact absurd (by rw [h]) c
theorem FnBits : laws_FnBits.Pure := by
  intro l0 l1 _ _ w0 _ _ w1
  refine Ev.law ?_
  unfold laws_FnBits.f
  by_cases hn : wrap64 ((l0.length : Int) + (l1.length : Int)) > 1048576
  · exact Ev.congr (fun k => by rw [if_pos hn]) (Ev.now _)
  simp only [if_neg hn]
  have b0 := byt_of w0
  have b1 := byt_of w1
  obtain ⟨x5, y, d1, d2, d3⟩ := drawEnc_ok b0
  obtain ⟨r, e2, e1, e3, e4⟩ := EncodeBits_both x5 y (by omega) (by omega)
  refine Ev.bind d1 (Ev.bind e1 (Ev.bind e2 ?_))
  simp only [bne_self_eq_false, Bool.false_eq_true, if_false]
  by_cases c : r.2 = true
  · obtain ⟨g1, g2, g3, g4⟩ := e4 c
    have hr := round_enc x5 y r g1 g2 g3 g4 c
    refine Ev.step (f := fun k => (impl_DecodeBits.f k x5 r.1).bind fun bt384 => (if bt384.2 = true then ((laws_sameInts.f k bt384.1 y).bind fun t388 => (if t388 = true then (laws_FnBits.j1 k l1) else (none))) else (none))) (fun k => ?_) ?_
    · simp only [laws_FnBits.j0]
      rw [if_neg (by simp), if_pos c]
    · refine Ev.bind hr ?_
      simp only [if_true]
      refine Ev.bind (sameInts_ev y (by omega)) ?_
      simp only [if_true]
      exact bits_second b1
  · refine Ev.step (fun k => ?_) (bits_second b1)
    simp only [laws_FnBits.j0]
    rw [if_neg (by simp), if_neg c]

end Go.Proofs.YtobbhgghpjecjaaDoor.Pure
