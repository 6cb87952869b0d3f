/- The two programs' bits of bytes are alike. -/
import Derived.Test.YtobbhgghpjecjaaPFnExactUnpackBitsx2
import Derived.Lib.RabinKarpLaws
import Derived.Lib.Split
namespace Go.Proofs.Ytobbhgghpjecjaa.Pure
open Go.RowKit Go.Proofs.Ytobbhgghpjecjaa.PFnExactUnpackBits Go.Proofs.YtobbhgghpjecjaaW.PrintWords Go.Proofs.YtobbhgghpjecjaaW.PrintLast Go.Proofs.YtobbhgghpjecjaaW.PrintMore Go.Proofs.YtobbhgghpjecjaaOwn
set_option linter.unusedVariables false
set_option linter.unusedSimpArgs false

theorem wj {j n : Nat} (h : j < n) (hn : n ≤ 4611686018427387904) : wrap64 ((j : Int) + 1) = ((j + 1 : Nat) : Int) := by
  unfold wrap64; omega
theorem w64 {x : Int} (h0 : -9223372036854775808 ≤ x) (h1 : x ≤ 9223372036854775807) : wrap64 x = x := by
  unfold wrap64; omega
theorem rdj (l : List Int) (j : Nat) : rd l (j : Int) = l.getD j 0 := rfl
theorem getD_at {α : Type} {l : List α} {j : Nat} (h : j < l.length) (z : α) : l.getD j z = l[j] := by
  rw [List.getD_eq_getElem?_getD, List.getElem?_eq_getElem h]; rfl
theorem Ev.law {g : Nat → Option Bool} (h : Ev g true) : ∃ k, g k = some true := h.rounds
theorem wf_i64 {x : Int} (h : (Lit.int .i64 x).wf = true) : -9223372036854775808 ≤ x ∧ x ≤ 9223372036854775807 := by
  simp only [Lit.wf, IntKind.min, IntKind.max, IntKind.signed, IntKind.bits, Bool.and_eq_true, decide_eq_true_eq, if_true] at h
  omega

theorem l1In_eq (a b c : Int) : spec_l1In.f a b c = some (decide (b ≤ a ∧ a ≤ c)) := by
  unfold spec_l1In.f; by_cases h : b ≤ a <;> simp [h]
theorem within_eq (a b c : Int) : impl_within.f a b c = some (decide (b ≤ a ∧ a ≤ c)) := by
  unfold impl_within.f; by_cases h : b ≤ a <;> simp [h]

--IMPORT Derived.Lib.RabinKarpLaws
/-- The bytes of a number in so many bits. -/
def bitNum (n s i : Nat) : Int := ((48 + n / 2 ^ (s - 1 - i) % 2 : Nat) : Int)
def bitNums (n s : Nat) : List Int := (List.range s).map (bitNum n s)
def bitText (n s : Nat) : ByteArray := strOfNums (bitNums n s)
theorem bitNums_length (n s : Nat) : (bitNums n s).length = s := by simp [bitNums]
theorem shr_nat (n e : Nat) (he : e ≤ 63) : shr .i64 (n : Int) (e : Int) = ((n / 2 ^ e : Nat) : Int) := by
  unfold shr
  rw [show min (e : Int).toNat IntKind.i64.bits = e from by simp only [IntKind.bits]; omega]
  rw [Int.natCast_ediv, Int.natCast_pow]; rfl
theorem u64_small {x : Int} (h0 : 0 ≤ x) (h1 : x ≤ 9223372036854775807) : IntKind.u64.wrap x = x := by
  simp only [IntKind.wrap, IntKind.bits, IntKind.signed]; simp; omega
theorem bit_step (n e : Nat) (hn : n < 9223372036854775808) : Go.bits .and .i64 ((n / 2 ^ e : Nat) : Int) 1 = ((n / 2 ^ e % 2 : Nat) : Int) :=
  Go.Proofs.and_one (n / 2 ^ e) (Nat.lt_of_le_of_lt (Nat.div_le_self _ _) hn)
theorem bits_l (n s : Nat) (hn : n < 9223372036854775808) (hs : s ≤ 60) (d : Nat) : ∀ (j : Nat) (x : List Int), j + d = s → x.length = s → (∀ i, i < j → x[i]? = some (bitNum n s i)) →
    Ev (fun k => spec_l15Bits.l0 k (n : Int) (s : Int) x (s : Int) (j : Int)) (bitText n s) ∧ Ev (fun k => impl_binary.l0 k (n : Int) (s : Int) x (s : Int) (j : Int)) (bitText n s) := by
  induction d with
  | zero =>
    intro j x hj hx he
    have e : x = bitNums n s := List.ext_getElem? fun i => by
      by_cases hi : i < s
      · rw [he i (by omega)]; simp [bitNums, hi]
      · rw [List.getElem?_eq_none (by omega), List.getElem?_eq_none (by rw [bitNums_length]; omega)]
    subst e
    constructor
    · refine Ev.step (f := fun _ => some (bitText n s)) (fun k => ?_) (Ev.now _)
      simp only [spec_l15Bits.l0]; rw [if_neg (by omega)]; rfl
    · refine Ev.step (f := fun _ => some (bitText n s)) (fun k => ?_) (Ev.now _)
      simp only [impl_binary.l0]; rw [if_neg (by omega)]; rfl
  | succ d ih =>
    intro j x hj hx he
    have hb : 0 ≤ n / 2 ^ (s - 1 - j) % 2 ∧ n / 2 ^ (s - 1 - j) % 2 < 2 := ⟨Nat.zero_le _, Nat.mod_lt _ (by decide)⟩
    have hw : wrap64 (wrap64 ((s : Int) - 1) - (j : Int)) = ((s - 1 - j : Nat) : Int) := by
      rw [w64 (x := (s : Int) - 1) (by omega) (by omega), w64 (by omega) (by omega)]; omega
    obtain ⟨h1, h2⟩ := ih (j + 1) (x.set j (bitNum n s j)) (by omega) (by simpa using hx) (fun i hi => by
      rw [List.getElem?_set]
      split
      · rename_i h; subst h; rw [if_pos (by omega)]
      · exact he i (by omega))
    constructor
    · refine Ev.step (fun k => ?_) h1
      simp only [spec_l15Bits.l0]
      rw [if_pos (by omega), hw, u64_small (by omega) (by omega), if_pos (by omega), if_pos (by omega), if_pos (by omega), shr_nat n _ (by omega), bit_step n _ hn, wj (n := s) (by omega) (by omega)]
      rw [show (48 + ((n / 2 ^ (s - 1 - j) % 2 : Nat) : Int) % 256) % 256 = bitNum n s j from by unfold bitNum; omega]
      rfl
    · refine Ev.step (fun k => ?_) h2
      simp only [impl_binary.l0]
      rw [if_pos (by omega), hw, if_pos (by omega), if_pos (by omega), if_pos (by omega), shr_nat n _ (by omega), bit_step n _ hn, wj (n := s) (by omega) (by omega)]
      rw [show (wrap64 (48 + ((n / 2 ^ (s - 1 - j) % 2 : Nat) : Int))) % 256 = bitNum n s j from by rw [w64 (by omega) (by omega)]; unfold bitNum; omega]
      rfl
theorem bits_ev (n s : Nat) (hn : n < 9223372036854775808) (hs : s ≤ 60) : Ev (fun k => spec_l15Bits.f k (n : Int) (s : Int)) (bitText n s) ∧ Ev (fun k => impl_binary.f k (n : Int) (s : Int)) (bitText n s) := by
  obtain ⟨h1, h2⟩ := bits_l n s hn hs s 0 (List.replicate s 0) (by omega) (by simp) (fun i hi => by omega)
  constructor
  · refine Ev.congr (fun k => ?_) h1
    simp only [spec_l15Bits.f]
    rw [if_pos (by omega), if_pos (by omega)]
    simp
  · refine Ev.congr (fun k => ?_) h2
    simp only [impl_binary.f]
    rw [if_pos (by omega), if_pos (by omega)]
    simp

--IMPORT Derived.Lib.Split
theorem bapp (acc : List UInt8) (c : ByteArray) : (⟨acc.toArray⟩ : ByteArray) ++ c = ⟨(acc ++ c.data.toList).toArray⟩ := by
  apply ByteArray.ext
  simp
theorem bsize (acc : List UInt8) : (⟨acc.toArray⟩ : ByteArray).size = acc.length := by simp [ByteArray.size]
theorem dsize (c : ByteArray) : c.data.toList.length = c.size := Array.length_toList
theorem bt_arr (acc : List UInt8) (i : Nat) (h : i < acc.length) : bt ⟨acc.toArray⟩ (i : Int) = (acc[i].toNat : Int) := by
  unfold bt
  rw [dif_pos (by rw [bsize]; simpa using h)]
  rfl
theorem bt_byte (s : ByteArray) (i : Int) : ∃ n : Nat, n < 256 ∧ bt s i = (n : Int) := by
  unfold bt
  split
  · rename_i h; exact ⟨_, UInt8.toNat_lt _, rfl⟩
  · exact ⟨0, by omega, rfl⟩
theorem index_mem (l : List UInt8) (c : UInt8) : -1 ≤ Lib.indexByte l c ∧ (0 ≤ Lib.indexByte l c ↔ c ∈ l) := by
  induction l with
  | nil => simp [Lib.indexByte]
  | cons b l ih =>
    unfold Lib.indexByte
    by_cases h : b = c
    · subst h; simp
    · rw [if_neg (by simpa using h)]
      obtain ⟨h1, h2⟩ := ih
      by_cases h3 : Lib.indexByte l c = -1
      · rw [if_pos (by simp [h3])]
        refine ⟨by omega, ?_⟩
        have : ¬ c ∈ l := fun hm => by have := h2.2 hm; omega
        simp [this, Ne.symm h]
      · rw [if_neg (by simpa using h3)]
        have h4 : 0 ≤ Lib.indexByte l c := by omega
        have := h2.1 h4
        refine ⟨by omega, ?_⟩
        simp [this]; omega
theorem ext_drop (acc : List UInt8) (e : Nat) : ((⟨acc.toArray⟩ : ByteArray).extract e (⟨acc.toArray⟩ : ByteArray).size).data.toList = acc.drop e := by
  rw [bsize, ByteArray.data_extract, Array.toList_extract]
  simp [List.take_of_length_le]
def OneBits (acc : List UInt8) : Prop := ∀ x ∈ acc, x = 48 ∨ x = 49
theorem bit_one (n s : Nat) : OneBits (bitText n s).data.toList := by
  intro x hx
  unfold bitText bitNums at hx
  rw [strOfNums_data, List.map_map] at hx
  obtain ⟨i, _, rfl⟩ := List.mem_map.1 hx
  simp only [Function.comp, bitNum]
  rw [Int.toNat_natCast]
  have := Nat.mod_lt (n / 2 ^ (s - 1 - i)) (show 0 < 2 by decide)
  generalize n / 2 ^ (s - 1 - i) % 2 = z at this
  obtain rfl | rfl : z = 0 ∨ z = 1 := by omega
  · exact .inl rfl
  · exact .inr rfl
theorem bitText_size (n s : Nat) : (bitText n s).size = s := by unfold bitText; rw [strOfNums_size, bitNums_length]
theorem ones_l (acc : List UInt8) (ha : OneBits acc) (hn : acc.length ≤ 5000) (e : Nat) (he : e ≤ acc.length) (d : Nat) : ∀ (i : Nat), i + d = acc.length →
    Ev (fun k => spec_UnpackBits.l1 k ⟨acc.toArray⟩ (e : Int) (i : Int)) (if (48 : UInt8) ∈ acc.drop i then (⟨#[]⟩, false) else ((⟨acc.toArray⟩ : ByteArray).extract 0 e, true)) := by
  induction d with
  | zero =>
    intro i hi
    rw [List.drop_eq_nil_of_le (by omega), if_neg (by simp)]
    refine Ev.step (f := fun _ => some ((⟨acc.toArray⟩ : ByteArray).extract 0 e, true)) (fun k => ?_) (Ev.now _)
    simp only [spec_UnpackBits.l1, bsize]
    rw [if_neg (by omega), if_pos (by omega), if_pos (by omega), Int.toNat_natCast]
  | succ d ih =>
    intro i hi
    have hlt : i < acc.length := by omega
    rw [List.drop_eq_getElem_cons hlt]
    rcases ha _ (List.getElem_mem hlt) with h | h
    · rw [if_pos (by rw [h]; exact List.mem_cons_self)]
      refine Ev.step (f := fun _ => some (⟨#[]⟩, false)) (fun k => ?_) (Ev.now _)
      simp only [spec_UnpackBits.l1, bsize]
      rw [if_pos (by omega), if_pos (by omega), bt_arr acc i hlt, h, if_neg (by decide)]
    · have g := ih (i + 1) (by omega)
      have e1 : ((48 : UInt8) ∈ acc[i] :: acc.drop (i + 1)) = ((48 : UInt8) ∈ acc.drop (i + 1)) := by
        rw [h]; simp
      simp only [e1]
      refine Ev.step (fun k => ?_) g
      simp only [spec_UnpackBits.l1, bsize]
      rw [if_pos (by omega), if_pos (by omega), bt_arr acc i hlt, h, if_pos (by decide), wj (n := acc.length) hlt (by omega)]
theorem unpack_l (a0 : ByteArray) (p : Nat) (hs : a0.size ≤ 500) (hp : p ≤ 8 * a0.size) (hp7 : p ≤ 7) (d : Nat) : ∀ (j : Nat) (acc : List UInt8), j + d = a0.size → acc.length = 8 * j → OneBits acc →
    ∃ r : ByteArray × Bool, Ev (fun k => spec_UnpackBits.l0 k a0 (p : Int) ⟨acc.toArray⟩ (j : Int)) r ∧ Ev (fun k => impl_UnpackBits.l0 k a0 (p : Int) acc (j : Int)) r := by
  induction d with
  | zero =>
    intro j acc hj ha ho
    have ew : wrap64 ((acc.length : Int) - (p : Int)) = ((acc.length - p : Nat) : Int) := by rw [w64 (by omega) (by omega)]; omega
    have g := ones_l acc ho (by omega) (acc.length - p) (by omega) p (acc.length - p) (by omega)
    refine ⟨_, Ev.step (fun k => ?_) g, Ev.step (f := fun _ => some (if (48 : UInt8) ∈ acc.drop (acc.length - p) then ((⟨#[]⟩ : ByteArray), false) else ((⟨acc.toArray⟩ : ByteArray).extract 0 (acc.length - p), true))) (fun k => ?_) (Ev.now _)⟩
    · simp only [spec_UnpackBits.l0, bsize]
      rw [if_neg (by omega), ew]
    · simp only [impl_UnpackBits.l0]
      rw [if_neg (by omega), ew]
      unfold impl_UnpackBits.fin
      rw [if_pos (by omega), if_pos (by rw [bsize]; omega), Int.toNat_natCast, ext_drop]
      have hi := (index_mem (acc.drop (acc.length - p)) 48).2
      by_cases c : (48 : UInt8) ∈ acc.drop (acc.length - p)
      · rw [if_pos c, if_pos (hi.2 c)]
      · rw [if_neg c, if_neg (fun h => c (hi.1 h))]
  | succ d ih =>
    intro j acc hj ha ho
    obtain ⟨n, hn, en⟩ := bt_byte a0 (j : Int)
    obtain ⟨b1, b2⟩ := bits_ev n 8 (by omega) (by omega)
    have hsz := bitText_size n 8
    have hdl := dsize (bitText n 8)
    obtain ⟨r, g1, g2⟩ := ih (j + 1) (acc ++ (bitText n 8).data.toList) (by omega) (by rw [List.length_append]; omega) (by
      intro x hx
      rcases List.mem_append.1 hx with hx | hx
      · exact ho x hx
      · exact bit_one n 8 x hx)
    refine ⟨r, ?_, ?_⟩
    · apply Ev.step
      · intro k
        simp only [spec_UnpackBits.l0]
        rw [if_pos (by omega), if_pos (by omega), en, w64 (x := (n : Int)) (by omega) (by omega)]
      · refine Ev.bind b1 (Ev.congr (fun k => ?_) g1)
        rw [if_pos (by rw [bsize, hsz]; omega), bapp, wj (n := a0.size) (by omega) (by omega)]
    · apply Ev.step
      · intro k
        simp only [impl_UnpackBits.l0]
        rw [if_pos (by omega), if_pos (by omega), en, w64 (x := (n : Int)) (by omega) (by omega)]
      · refine Ev.bind b2 (Ev.congr (fun k => ?_) g2)
        rw [if_pos (by rw [hsz]; omega), wj (n := a0.size) (by omega) (by omega)]
theorem UnpackBits_both (a0 : ByteArray) (a1 : Int) (hn : a0.size ≤ 1048576) : ∃ r : ByteArray × Bool, Ev (fun k => spec_UnpackBits.f k a0 a1) r ∧ Ev (fun k => impl_UnpackBits.f k a0 a1) r := by
  have sj : Ev (fun k => spec_UnpackBits.j0 k a0 a1 true) (⟨#[]⟩, false) :=
    Ev.step (f := fun _ => some (⟨#[]⟩, false)) (fun k => by simp [spec_UnpackBits.j0]) (Ev.now _)
  by_cases c : 0 ≤ a1 ∧ a1 ≤ 7
  · have e8 : wrap64 (8 * (a0.size : Int)) = 8 * (a0.size : Int) := w64 (by omega) (by omega)
    have e8p : wrap64 (8 * (a0.size : Int) - a1) = 8 * (a0.size : Int) - a1 := w64 (by omega) (by omega)
    by_cases c1 : 8 * (a0.size : Int) < a1
    · refine ⟨(⟨#[]⟩, false), ?_, ?_⟩
      · refine Ev.congr (fun k => ?_) sj
        unfold spec_UnpackBits.f
        rw [if_neg (by omega), l1In_eq, decide_eq_true c]
        simp only [Option.bind_some, if_true]
        have h0 : a0.toList = [] := by
          rw [ByteArray.toList_eq]
          refine List.eq_nil_of_length_eq_zero ?_
          rw [dsize]; omega
        rw [if_pos h0, decide_eq_true (by omega)]
      · refine Ev.congr (f := fun _ => some (⟨#[]⟩, false)) (fun k => ?_) (Ev.now _)
        unfold impl_UnpackBits.f
        rw [within_eq, decide_eq_true c]
        simp only [Option.bind_some, if_true]
        rw [e8, if_pos c1]
    · by_cases c2 : 4000 < 8 * (a0.size : Int) - a1
      · refine ⟨(⟨#[]⟩, false), ?_, ?_⟩
        · refine Ev.congr (fun k => ?_) sj
          unfold spec_UnpackBits.f
          rw [if_pos (by omega)]
        · refine Ev.congr (f := fun _ => some (⟨#[]⟩, false)) (fun k => ?_) (Ev.now _)
          unfold impl_UnpackBits.f
          rw [within_eq, decide_eq_true c]
          simp only [Option.bind_some, if_true]
          rw [e8, if_neg c1, e8p, if_pos c2]
      · obtain ⟨r, g1, g2⟩ := unpack_l a0 a1.toNat (by omega) (by omega) (by omega) a0.size 0 [] (by omega) rfl (fun x hx => absurd hx (by simp))
        rw [show ((a1.toNat : Nat) : Int) = a1 from by omega] at g1 g2
        have sj2 : Ev (fun k => spec_UnpackBits.j0 k a0 a1 false) r := by
          refine Ev.step (f := fun k => spec_UnpackBits.l0 k a0 a1 ⟨#[]⟩ 0) (fun k => ?_) g1
          simp only [spec_UnpackBits.j0]
          rw [if_neg (by simp)]
        refine ⟨r, Ev.congr (fun k => ?_) sj2, Ev.congr (fun k => ?_) g2⟩
        · unfold spec_UnpackBits.f
          rw [if_neg (by omega), l1In_eq, decide_eq_true c]
          simp only [Option.bind_some, if_true]
          by_cases h0 : a0.toList = []
          · rw [if_pos h0]
            have : a0.size = 0 := by rw [← dsize, ← ByteArray.toList_eq, h0]; rfl
            rw [decide_eq_false (by omega)]
          · rw [if_neg h0]
        · unfold impl_UnpackBits.f
          rw [within_eq, decide_eq_true c]
          simp only [Option.bind_some, if_true]
          rw [e8, if_neg c1, e8p, if_neg c2]; rfl
  · refine ⟨(⟨#[]⟩, false), ?_, ?_⟩
    · refine Ev.congr (fun k => ?_) sj
      unfold spec_UnpackBits.f
      rw [l1In_eq, decide_eq_false c]
      simp
    · refine Ev.congr (f := fun _ => some (⟨#[]⟩, false)) (fun k => ?_) (Ev.now _)
      unfold impl_UnpackBits.f
      rw [within_eq, decide_eq_false c]
      simp
theorem FnExactUnpackBits : laws_FnExactUnpackBits.Pure := by
  intro a0 a1 _ _
  refine Ev.law ?_
  unfold laws_FnExactUnpackBits.f
  by_cases hn : (a0.size : Int) > 1048576
  · exact Ev.congr (fun k => by rw [if_pos hn]) (Ev.now _)
  simp only [if_neg hn]
  obtain ⟨r, g1, g2⟩ := UnpackBits_both a0 a1 (by omega)
  refine Ev.bind g1 (Ev.bind g2 ?_)
  simp only [if_true, bne_self_eq_false]
  exact Ev.now _

end Go.Proofs.Ytobbhgghpjecjaa.Pure
