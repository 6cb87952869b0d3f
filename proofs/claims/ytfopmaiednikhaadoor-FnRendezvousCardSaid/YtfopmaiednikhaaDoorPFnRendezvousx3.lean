-- written by a program of this session (wip/tool)
import Derived.Test.YtfopmaiednikhaaDoorPFnRendezvousx0
import Derived.Test.YtfopmaiednikhaaDoorPFnRendezvousx1
import Derived.Test.YtfopmaiednikhaaDoorPFnRendezvousx2
import Derived.Test.YtfopmaiednikhaaDoorOwn0
import Derived.Test.YtfopmaiednikhaaDoorOwnOpen
import Derived.Test.YtfopmaiednikhaaDoorOwnRk
import Derived.WalkKit
import Derived.BigCall
import Derived.Deep.QuietTactic
namespace Go.Proofs.YtfopmaiednikhaaDoor.PFnRendezvous
open Go.RowKit Go.Proofs.YtfopmaiednikhaaDoorW.PrintWords Go.Proofs.YtfopmaiednikhaaDoorW.PrintLast Go.Proofs.YtfopmaiednikhaaDoorW.PrintMore Go.Shelf Go.Proofs.YtfopmaiednikhaaDoorOwn
attribute [local go_sem] max2_int min2_int max_two min_two max_three min_three max_four min_four   -- for this text's walks alone
set_option linter.unusedVariables false
set_option linter.unusedSimpArgs false

/-! ### impl_HashOf: function 26 -/
def impl_HashOf.f (k : Nat) (a0 : ByteArray) : Option (Int) := (impl_hashed.f k 2166136261 a0).bind fun t162 => (some (Go.bits .xor .u32 (((Go.bits .xor .u32 t162 (t162 / 32768)) * 2246822507) % 4294967296) ((((Go.bits .xor .u32 t162 (t162 / 32768)) * 2246822507) % 4294967296) / 8192)))
theorem impl_HashOf.mono : ∀ a0 k, LeO (impl_HashOf.f k a0) (impl_HashOf.f (k + 1) a0) := by
  intro a0 k
  unfold impl_HashOf.f
  repeat' first
      | (with_reducible exact impl_hashed.mono _ _ _)
      | (with_reducible exact LeO.refl _)
      | (with_reducible exact LeO.none _)
      | (with_reducible refine LeO.ite ?_ ?_)
      | (with_reducible refine LeO.bind ?_ (fun _ => ?_))
      | exact impl_hashed.mono _ _ _
      | exact LeO.none _
      | refine LeO.ite ?_ ?_
      | refine LeO.bind ?_ (fun _ => ?_)
set_option maxHeartbeats 8000000 in
set_option maxRecDepth 100000 in
theorem impl_HashOf.calls (k : Nat) (a0 : ByteArray) (r : Int) (w : World) (h : impl_HashOf.f k a0 = some r) :
    Calls Tryd.prog 26 #[.string a0] w fun e w' => e = .returned (.int .u32 r) ∧ Drawn0 w w' := by
  have H : ((impl_hashed.f k 2166136261 a0).bind fun t162 => (some (Go.bits .xor .u32 (((Go.bits .xor .u32 t162 (t162 / 32768)) * 2246822507) % 4294967296) ((((Go.bits .xor .u32 t162 (t162 / 32768)) * 2246822507) % 4294967296) / 8192)))) = some r := h
  clear h
  replace H := Option.bind_eq_some_iff.mp H
  obtain ⟨t162, A20, H⟩ := H
  replace H : (some (Go.bits .xor .u32 (((Go.bits .xor .u32 t162 (t162 / 32768)) * 2246822507) % 4294967296) ((((Go.bits .xor .u32 t162 (t162 / 32768)) * 2246822507) % 4294967296) / 8192))) = some r := H
  have A2 := Aside0.mk A20
  clear A20
  obtain rfl := Option.some.inj H
  go_enter Tryd.func26, Tryd.ntmps26
  go_wp2_with (first | ((with_reducible refine gate_callee (f := 49) rfl ?_); refine goesL_ (some 5) rfl rfl Tryd.func49 (by kernel_rfl) rfl #[.int .u32 2166136261, .string a0] rfl (by (try simp only [List.map_toArray, List.map_cons, List.map_nil]); first | done | rfl | (simp only [List.length_drop, List.length_take]; rfl)) ?_; (with_reducible refine (impl_hashed.calls k 2166136261 a0 t162 _ A2.out).mono ?_); rintro e w' ⟨rfl, ⟨nd, rfl⟩⟩; refine ⟨_, rfl, ?_⟩))
  go_ret
  exact ⟨by first | rfl | (simp; done) | (simp [*]; done), by repeat (first | exact Drawn0.refl _ | apply Drawn0.step)⟩

-- NOT PRINTED: function 129 (strconv_small)

-- NOT PRINTED: function 111 (bits_Len64)

-- NOT PRINTED: function 147 (strconv_log10Pow2)

-- NOT PRINTED: function 148 (strconv_bool2_int)

-- NOT PRINTED: function 130 (strconv_numDigits)

-- NOT PRINTED: function 131 (strconv_formatBase10)

-- NOT PRINTED: function 149 (strconv_isPowerOfTwo)

-- NOT PRINTED: function 155 (bits_TrailingZeros32)

-- NOT PRINTED: function 156 (bits_TrailingZeros64)

-- NOT PRINTED: function 150 (bits_TrailingZeros)

-- NOT PRINTED: function 132 (strconv_formatBits)

-- NOT PRINTED: function 101 (strconv_FormatInt)

-- NOT PRINTED: function 78 (strconv_Itoa_78)

/-! ### strconv.Itoa below 100: function 58 -/
/-- The numeral of a number below 100. -/
def numT (n : Nat) : ByteArray := if n < 10 then ⟨#[UInt8.ofNat (48 + n)]⟩ else ⟨#[UInt8.ofNat (48 + n / 10), UInt8.ofNat (48 + n % 10)]⟩
theorem numT_is (n : Nat) (h : n < 100) : (⟨(Lib.decDigits n).toArray⟩ : ByteArray) = numT n := by
  unfold numT
  by_cases c : n < 10
  · rw [if_pos c, Lib.decDigits_one c]
  · rw [if_neg c, Lib.decDigits_two c h]
theorem itoa_num (i : Nat) (hi : i < 100) (w : World) : Calls Tryd.prog 58 #[.int .i64 i] w fun e w' => e = .returned (.string (numT i)) ∧ w' = w := by
  rw [← numT_is i hi]; exact rkItoa i hi w
def strconv_Itoa.f (a0 : Int) : Option ByteArray := if 0 ≤ a0 ∧ a0 < 100 then some (numT a0.toNat) else none
theorem strconv_Itoa.calls (a0 : Int) (r : ByteArray) (w : World) (h : strconv_Itoa.f a0 = some r) : Calls Tryd.prog 58 #[.int .i64 a0] w fun e w' => e = .returned (.string r) ∧ Below w.heap.size w w' := by
  unfold strconv_Itoa.f at h
  split at h
  · rename_i hc
    obtain rfl := Option.some.inj h
    have h1 := itoa_num a0.toNat (by omega) w
    rw [show ((a0.toNat : Nat) : Int) = a0 by omega] at h1
    refine h1.mono ?_
    rintro e w' ⟨rfl, rfl⟩
    exact ⟨rfl, Below.refl _ _⟩
  · cases h


-- NOT PRINTED: function 70 (impl_ranked_1)

-- NOT PRINTED: function 127 (slices_AppendSeq_int_int)

-- NOT PRINTED: function 97 (slices_Collect_int)

-- NOT PRINTED: function 145 (slices_insertionSortCmpFunc_int)

-- NOT PRINTED: function 157 (slices_swapRangeCmpFunc_int)

-- NOT PRINTED: function 154 (slices_rotateCmpFunc_int)

-- NOT PRINTED: function 146 (slices_symMergeCmpFunc_int)

-- NOT PRINTED: function 128 (slices_stableCmpFunc_int)

-- NOT PRINTED: function 98 (slices_SortStableFunc_int_int)

-- NOT PRINTED: function 71 (slices_SortedStableFunc_int)

-- NOT PRINTED: function 99 (slices_Values_int_int_1)

-- NOT PRINTED: function 72 (slices_Values_int_int)

/-! ### cmp_isNaN_uint32: function 100 -/
def cmp_isNaN_uint32.f (a0 : Int) : Option (Bool) := some (a0 != a0)
set_option maxHeartbeats 8000000 in
set_option maxRecDepth 100000 in
theorem cmp_isNaN_uint32.calls (a0 : Int) (r : Bool) (w : World) (h : cmp_isNaN_uint32.f a0 = some r) :
    Calls Tryd.prog 100 #[.int .u32 a0] w fun e w' => e = .returned (.bool r) ∧ Drawn0 w w' := by
  have H : (some (a0 != a0)) = some r := h
  clear h
  obtain rfl := Option.some.inj H
  go_enter Tryd.func100, Tryd.ntmps100
  go_wp2
  go_ret
  exact ⟨by first | rfl | (simp; done) | (simp [*]; done), by repeat (first | exact Drawn0.refl _ | apply Drawn0.step)⟩

/-! ### cmp_Compare_uint32: function 74 -/
def cmp_Compare_uint32.f (a0 : Int) (a1 : Int) : Option (Int) := (cmp_isNaN_uint32.f a0).bind fun t163 => ((cmp_isNaN_uint32.f a1).bind fun t164 => (if t163 = true then (if t164 = true then (some 0) else (some (-1))) else (if t164 = true then (some 1) else (if a0 < a1 then (some (-1)) else (if a0 > a1 then (some 1) else (some 0))))))
set_option maxHeartbeats 8000000 in
set_option maxRecDepth 100000 in
theorem cmp_Compare_uint32.calls (a0 : Int) (a1 : Int) (r : Int) (w : World) (h : cmp_Compare_uint32.f a0 a1 = some r) :
    Calls Tryd.prog 74 #[.int .u32 a0, .int .u32 a1] w fun e w' => e = .returned (.int .i64 r) ∧ Drawn0 w w' := by
  have H : ((cmp_isNaN_uint32.f a0).bind fun t163 => ((cmp_isNaN_uint32.f a1).bind fun t164 => (if t163 = true then (if t164 = true then (some 0) else (some (-1))) else (if t164 = true then (some 1) else (if a0 < a1 then (some (-1)) else (if a0 > a1 then (some 1) else (some 0))))))) = some r := h
  clear h
  replace H := Option.bind_eq_some_iff.mp H
  obtain ⟨t163, A30, H⟩ := H
  replace H : ((cmp_isNaN_uint32.f a1).bind fun t164 => (if t163 = true then (if t164 = true then (some 0) else (some (-1))) else (if t164 = true then (some 1) else (if a0 < a1 then (some (-1)) else (if a0 > a1 then (some 1) else (some 0)))))) = some r := H
  have A3 := Aside0.mk A30
  clear A30
  replace H := Option.bind_eq_some_iff.mp H
  obtain ⟨t164, A40, H⟩ := H
  replace H : (if t163 = true then (if t164 = true then (some 0) else (some (-1))) else (if t164 = true then (some 1) else (if a0 < a1 then (some (-1)) else (if a0 > a1 then (some 1) else (some 0))))) = some r := H
  have A4 := Aside0.mk A40
  clear A40
  by_cases c5 : t163 = true
  · subst c5
    have H1 : (if t164 = true then (some 0) else (some (-1))) = some r := by rw [if_pos rfl] at H; exact H
    clear H
    have H := H1
    clear H1
    by_cases c6 : t164 = true
    · subst c6
      have H1 : (some 0) = some r := by rw [if_pos rfl] at H; exact H
      clear H
      have H := H1
      clear H1
      obtain rfl := Option.some.inj H
      go_enter Tryd.func74, Tryd.ntmps74
      go_wp2_with (first | ((with_reducible refine gate_callee (f := 100) rfl ?_); refine goesL_ (some 8) rfl rfl Tryd.func100 (by kernel_rfl) rfl #[.int .u32 a0] rfl (by (try simp only [List.map_toArray, List.map_cons, List.map_nil]); first | done | rfl | (simp only [List.length_drop, List.length_take]; rfl)) ?_; (with_reducible refine (cmp_isNaN_uint32.calls a0 true _ A3.out).mono ?_); rintro e w' ⟨rfl, ⟨nd, rfl⟩⟩; refine ⟨_, rfl, ?_⟩) | ((with_reducible refine gate_callee (f := 100) rfl ?_); refine goesL_ (some 10) rfl rfl Tryd.func100 (by kernel_rfl) rfl #[.int .u32 a1] rfl (by (try simp only [List.map_toArray, List.map_cons, List.map_nil]); first | done | rfl | (simp only [List.length_drop, List.length_take]; rfl)) ?_; (with_reducible refine (cmp_isNaN_uint32.calls a1 true _ A4.out).mono ?_); rintro e w' ⟨rfl, ⟨nd, rfl⟩⟩; refine ⟨_, rfl, ?_⟩))
      go_ret
      exact ⟨by first | rfl | (simp; done) | (simp [*]; done), by repeat (first | exact Drawn0.refl _ | apply Drawn0.step)⟩
    · replace c6 := Bool.eq_false_iff.mpr c6
      subst c6
      have H1 : (some (-1)) = some r := by rw [if_neg (show ¬ (false = true) by decide)] at H; exact H
      clear H
      have H := H1
      clear H1
      obtain rfl := Option.some.inj H
      go_enter Tryd.func74, Tryd.ntmps74
      go_wp2_with (first | ((with_reducible refine gate_callee (f := 100) rfl ?_); refine goesL_ (some 8) rfl rfl Tryd.func100 (by kernel_rfl) rfl #[.int .u32 a0] rfl (by (try simp only [List.map_toArray, List.map_cons, List.map_nil]); first | done | rfl | (simp only [List.length_drop, List.length_take]; rfl)) ?_; (with_reducible refine (cmp_isNaN_uint32.calls a0 true _ A3.out).mono ?_); rintro e w' ⟨rfl, ⟨nd, rfl⟩⟩; refine ⟨_, rfl, ?_⟩) | ((with_reducible refine gate_callee (f := 100) rfl ?_); refine goesL_ (some 10) rfl rfl Tryd.func100 (by kernel_rfl) rfl #[.int .u32 a1] rfl (by (try simp only [List.map_toArray, List.map_cons, List.map_nil]); first | done | rfl | (simp only [List.length_drop, List.length_take]; rfl)) ?_; (with_reducible refine (cmp_isNaN_uint32.calls a1 false _ A4.out).mono ?_); rintro e w' ⟨rfl, ⟨nd, rfl⟩⟩; refine ⟨_, rfl, ?_⟩))
      go_ret
      exact ⟨by first | rfl | (simp; done) | (simp [*]; done), by repeat (first | exact Drawn0.refl _ | apply Drawn0.step)⟩
  · replace c5 := Bool.eq_false_iff.mpr c5
    subst c5
    have H1 : (if t164 = true then (some 1) else (if a0 < a1 then (some (-1)) else (if a0 > a1 then (some 1) else (some 0)))) = some r := by rw [if_neg (show ¬ (false = true) by decide)] at H; exact H
    clear H
    have H := H1
    clear H1
    by_cases c7 : t164 = true
    · subst c7
      have H1 : (some 1) = some r := by rw [if_pos rfl] at H; exact H
      clear H
      have H := H1
      clear H1
      obtain rfl := Option.some.inj H
      go_enter Tryd.func74, Tryd.ntmps74
      go_wp2_with (first | ((with_reducible refine gate_callee (f := 100) rfl ?_); refine goesL_ (some 8) rfl rfl Tryd.func100 (by kernel_rfl) rfl #[.int .u32 a0] rfl (by (try simp only [List.map_toArray, List.map_cons, List.map_nil]); first | done | rfl | (simp only [List.length_drop, List.length_take]; rfl)) ?_; (with_reducible refine (cmp_isNaN_uint32.calls a0 false _ A3.out).mono ?_); rintro e w' ⟨rfl, ⟨nd, rfl⟩⟩; refine ⟨_, rfl, ?_⟩) | ((with_reducible refine gate_callee (f := 100) rfl ?_); refine goesL_ (some 10) rfl rfl Tryd.func100 (by kernel_rfl) rfl #[.int .u32 a1] rfl (by (try simp only [List.map_toArray, List.map_cons, List.map_nil]); first | done | rfl | (simp only [List.length_drop, List.length_take]; rfl)) ?_; (with_reducible refine (cmp_isNaN_uint32.calls a1 true _ A4.out).mono ?_); rintro e w' ⟨rfl, ⟨nd, rfl⟩⟩; refine ⟨_, rfl, ?_⟩))
      go_ret
      exact ⟨by first | rfl | (simp; done) | (simp [*]; done), by repeat (first | exact Drawn0.refl _ | apply Drawn0.step)⟩
    · replace c7 := Bool.eq_false_iff.mpr c7
      subst c7
      have H1 : (if a0 < a1 then (some (-1)) else (if a0 > a1 then (some 1) else (some 0))) = some r := by rw [if_neg (show ¬ (false = true) by decide)] at H; exact H
      clear H
      have H := H1
      clear H1
      by_cases c8 : a0 < a1
      · rw [if_pos c8] at H
        have c8b0 : decide (a0 < a1) = true := decide_eq_true c8
        clear c8
        obtain rfl := Option.some.inj H
        go_enter Tryd.func74, Tryd.ntmps74
        go_wp2_with (first | ((with_reducible refine gate_callee (f := 100) rfl ?_); refine goesL_ (some 8) rfl rfl Tryd.func100 (by kernel_rfl) rfl #[.int .u32 a0] rfl (by (try simp only [List.map_toArray, List.map_cons, List.map_nil]); first | done | rfl | (simp only [List.length_drop, List.length_take]; rfl)) ?_; (with_reducible refine (cmp_isNaN_uint32.calls a0 false _ A3.out).mono ?_); rintro e w' ⟨rfl, ⟨nd, rfl⟩⟩; refine ⟨_, rfl, ?_⟩) | ((with_reducible refine gate_callee (f := 100) rfl ?_); refine goesL_ (some 10) rfl rfl Tryd.func100 (by kernel_rfl) rfl #[.int .u32 a1] rfl (by (try simp only [List.map_toArray, List.map_cons, List.map_nil]); first | done | rfl | (simp only [List.length_drop, List.length_take]; rfl)) ?_; (with_reducible refine (cmp_isNaN_uint32.calls a1 false _ A4.out).mono ?_); rintro e w' ⟨rfl, ⟨nd, rfl⟩⟩; refine ⟨_, rfl, ?_⟩))
        go_ret
        exact ⟨by first | rfl | (simp; done) | (simp [*]; done), by repeat (first | exact Drawn0.refl _ | apply Drawn0.step)⟩
      · rw [if_neg c8] at H
        have c8b0 : decide (a0 < a1) = false := decide_eq_false c8
        clear c8
        by_cases c9 : a0 > a1
        · rw [if_pos c9] at H
          have c9b0 : decide (a1 < a0) = true := decide_eq_true c9
          clear c9
          obtain rfl := Option.some.inj H
          go_enter Tryd.func74, Tryd.ntmps74
          go_wp2_with (first | ((with_reducible refine gate_callee (f := 100) rfl ?_); refine goesL_ (some 8) rfl rfl Tryd.func100 (by kernel_rfl) rfl #[.int .u32 a0] rfl (by (try simp only [List.map_toArray, List.map_cons, List.map_nil]); first | done | rfl | (simp only [List.length_drop, List.length_take]; rfl)) ?_; (with_reducible refine (cmp_isNaN_uint32.calls a0 false _ A3.out).mono ?_); rintro e w' ⟨rfl, ⟨nd, rfl⟩⟩; refine ⟨_, rfl, ?_⟩) | ((with_reducible refine gate_callee (f := 100) rfl ?_); refine goesL_ (some 10) rfl rfl Tryd.func100 (by kernel_rfl) rfl #[.int .u32 a1] rfl (by (try simp only [List.map_toArray, List.map_cons, List.map_nil]); first | done | rfl | (simp only [List.length_drop, List.length_take]; rfl)) ?_; (with_reducible refine (cmp_isNaN_uint32.calls a1 false _ A4.out).mono ?_); rintro e w' ⟨rfl, ⟨nd, rfl⟩⟩; refine ⟨_, rfl, ?_⟩))
          go_ret
          exact ⟨by first | rfl | (simp; done) | (simp [*]; done), by repeat (first | exact Drawn0.refl _ | apply Drawn0.step)⟩
        · rw [if_neg c9] at H
          have c9b0 : decide (a1 < a0) = false := decide_eq_false c9
          clear c9
          obtain rfl := Option.some.inj H
          go_enter Tryd.func74, Tryd.ntmps74
          go_wp2_with (first | ((with_reducible refine gate_callee (f := 100) rfl ?_); refine goesL_ (some 8) rfl rfl Tryd.func100 (by kernel_rfl) rfl #[.int .u32 a0] rfl (by (try simp only [List.map_toArray, List.map_cons, List.map_nil]); first | done | rfl | (simp only [List.length_drop, List.length_take]; rfl)) ?_; (with_reducible refine (cmp_isNaN_uint32.calls a0 false _ A3.out).mono ?_); rintro e w' ⟨rfl, ⟨nd, rfl⟩⟩; refine ⟨_, rfl, ?_⟩) | ((with_reducible refine gate_callee (f := 100) rfl ?_); refine goesL_ (some 10) rfl rfl Tryd.func100 (by kernel_rfl) rfl #[.int .u32 a1] rfl (by (try simp only [List.map_toArray, List.map_cons, List.map_nil]); first | done | rfl | (simp only [List.length_drop, List.length_take]; rfl)) ?_; (with_reducible refine (cmp_isNaN_uint32.calls a1 false _ A4.out).mono ?_); rintro e w' ⟨rfl, ⟨nd, rfl⟩⟩; refine ⟨_, rfl, ?_⟩))
          go_ret
          exact ⟨by first | rfl | (simp; done) | (simp [*]; done), by repeat (first | exact Drawn0.refl _ | apply Drawn0.step)⟩

-- NOT PRINTED: function 73 (impl_ranked_2)

/-! ### the order of servers: the hash -/
/-- The hash of a text, byte by byte. -/
def hashN (s : ByteArray) : Nat → Nat → Int → Int
  | 0, _, h => h
  | d + 1, j, h => hashN s d (j + 1) (((Go.bits .xor .u32 h ((bt s (j : Int)) % 4294967296)) * 16777619) % 4294967296)
def hashT (s : ByteArray) : Int :=
  Go.bits .xor .u32 (((Go.bits .xor .u32 (hashN s s.size 0 2166136261) ((hashN s s.size 0 2166136261) / 32768)) * 2246822507) % 4294967296) ((((Go.bits .xor .u32 (hashN s s.size 0 2166136261) ((hashN s s.size 0 2166136261) / 32768)) * 2246822507) % 4294967296) / 8192)
theorem hashN_is (s : ByteArray) (hs : s.size ≤ 4611686018427387904) (d : Nat) : ∀ (j k : Nat) (h : Int), j + d = s.size → d < k → impl_hashed.l0 k h s (s.size : Int) (j : Int) = some (hashN s d j h) := by
  induction d with
  | zero =>
    intro j k h hj hk
    obtain ⟨k, rfl⟩ : ∃ m, k = m + 1 := ⟨k - 1, by omega⟩
    simp only [impl_hashed.l0]; rw [if_neg (by omega)]; rfl
  | succ d ih =>
    intro j k h hj hk
    obtain ⟨k, rfl⟩ : ∃ m, k = m + 1 := ⟨k - 1, by omega⟩
    simp only [impl_hashed.l0]
    rw [if_pos (by omega), if_pos (by omega), if_pos (by omega), show wrap64 ((j : Int) + 1) = ((j + 1 : Nat) : Int) by unfold wrap64; omega, ih (j + 1) k _ (by omega) (by omega)]
    rfl
theorem hashT_is (s : ByteArray) (hs : s.size ≤ 4611686018427387904) : impl_HashOf.f (s.size + 1) s = some (hashT s) := by
  unfold impl_HashOf.f impl_hashed.f
  rw [show (0 : Int) = ((0 : Nat) : Int) from rfl, hashN_is s hs s.size 0 (s.size + 1) _ (by omega) (by omega)]
  rfl
theorem hashT_calls (s : ByteArray) (hs : s.size ≤ 4611686018427387904) (w : World) : Calls Tryd.prog 26 #[.string s] w fun e w' => e = .returned (.int .u32 (hashT s)) ∧ ∃ m, w' = w.drewN m :=
  (impl_HashOf.calls (s.size + 1) s (hashT s) w (hashT_is s hs)).mono fun _ _ h => ⟨h.1, h.2.out⟩
/-- A server: what the sort is told of. -/
abbrev Srv := { x : Int // 0 ≤ x ∧ x < 100 }
instance : Inhabited Srv := ⟨⟨0, by decide⟩⟩
def encSv (x : Srv) : Value := .int .i64 x.1
/-- What is hashed: the server's number, a stroke, the key. -/
def keyT (key : ByteArray) (x : Int) : ByteArray := (numT x.toNat ++ (⟨#[47]⟩ : ByteArray)) ++ key
def cmpSv (key : ByteArray) (x y : Srv) : Int := if hashT (keyT key y.1) < hashT (keyT key x.1) then -1 else if hashT (keyT key y.1) > hashT (keyT key x.1) then 1 else 0
theorem digits_size (n : Nat) : (numT n).size ≤ 2 := by
  unfold numT; split
  · show 1 ≤ 2; omega
  · show 2 ≤ 2; omega
set_option maxHeartbeats 1000000 in
set_option maxRecDepth 100000 in
theorem rk70 (key : ByteArray) (b : Nat) (x : Srv) (w : World) (hc : w.cell? ⟨b, 0, none⟩ = some (.string key)) (hk : key.size ≤ 1152921504606846976) :
    Calls Tryd.prog 70 #[.int .i64 x.1, .pointer (some ⟨b, 0, none⟩)] w fun e w' => e = .returned (.int .u32 (hashT (keyT key x.1))) ∧ ∃ m, w' = w.drewN m := by
  have hd := digits_size x.1.toNat
  have hI : ∀ w, Calls Tryd.prog 58 #[.int .i64 x.1] w fun e w' => e = .returned (.string (numT x.1.toNat)) ∧ w' = w := fun w => by
    have h := itoa_num x.1.toNat (by have := x.2; omega) w
    rw [show ((x.1.toNat : Nat) : Int) = x.1 from by have := x.2; omega] at h
    exact h
  have hH : ∀ w, Calls Tryd.prog 26 #[.string (keyT key x.1)] w fun e w' => e = .returned (.int .u32 (hashT (keyT key x.1))) ∧ ∃ m, w' = w.drewN m := fun w => hashT_calls _ (by
    unfold keyT; simp only [ByteArray.size_append]
    have : (⟨#[47]⟩ : ByteArray).size = 1 := rfl
    omega) w
  unfold keyT at hH
  obtain ⟨dg, hdg⟩ : ∃ dg, dg = numT x.1.toNat := ⟨_, rfl⟩
  rw [← hdg] at hd hI hH
  unfold keyT
  rw [← hdg]
  clear hdg
  obtain ⟨x, hx⟩ := x
  dsimp only at hI hH ⊢
  clear hx
  have a1 : dg.size + 1 ≤ 9223372036854775807 := by omega
  have a2 : (dg ++ (⟨#[47]⟩ : ByteArray)).size + key.size ≤ 9223372036854775807 := by
    simp only [ByteArray.size_append]
    have : (⟨#[47]⟩ : ByteArray).size = 1 := rfl
    omega
  generalize hashT (dg ++ (⟨#[47]⟩ : ByteArray) ++ key) = r at hH ⊢
  go_enter Tryd.func70, Tryd.ntmps70
  go_wp2_with fail
  go_quiet (first
    | (go_at_call 58; refine Calls.quiet_of_same (hI _))
    | (go_at_call 26; refine Calls.quiet_of (hH _)))
  go_wp2
  go_ret
  exact ⟨rfl, _, rfl⟩
theorem cmpU (x y : Int) (w : World) : Calls Tryd.prog 74 #[.int .u32 x, .int .u32 y] w fun e w' => e = .returned (.int .i64 (if x < y then -1 else if x > y then 1 else 0)) ∧ ∃ m, w' = w.drewN m :=
  (cmp_Compare_uint32.calls x y (if x < y then -1 else if x > y then 1 else 0) w (by
    unfold cmp_Compare_uint32.f cmp_isNaN_uint32.f
    by_cases c : x < y
    · simp [c]
    · by_cases c2 : x > y
      · simp [c, c2]
      · simp [c, c2])).mono fun _ _ h => ⟨h.1, h.2.out⟩
set_option maxHeartbeats 1000000 in
set_option maxRecDepth 100000 in
theorem rk73 (key : ByteArray) (b b5 : Nat) (x y : Srv) (w : World) (hc : w.cell? ⟨b, 0, none⟩ = some (.string key)) (hc5 : w.cell? ⟨b5, 0, none⟩ = some (.func (.func 70) #[] #[.pointer (some ⟨b, 0, none⟩)])) (hk : key.size ≤ 1152921504606846976) :
    Calls Tryd.prog 73 #[encSv x, encSv y, .pointer (some ⟨b5, 0, none⟩)] w fun e w' => e = .returned (.int .i64 (cmpSv key x y)) ∧ ∃ m, w' = w.drewN m := by
  have hx := fun n => rk70 key b x (w.drewN n) hc hk
  have hy := fun n => rk70 key b y (w.drewN n) hc hk
  have e70 : ∀ args w, (callFunc 70 args).run Tryd.prog w = .ok (.enter 70 args) w := enters_of Tryd.func70 (by kernel_rfl) rfl
  unfold cmpSv encSv
  have hU := cmpU (hashT (keyT key y.1)) (hashT (keyT key x.1))
  generalize hashT (keyT key x.1) = hx1 at hx hU ⊢
  generalize hashT (keyT key y.1) = hy1 at hy hU ⊢
  generalize (if hy1 < hx1 then (-1 : Int) else if hy1 > hx1 then 1 else 0) = r at hU ⊢
  go_enter Tryd.func73, Tryd.ntmps73
  go_wp2_with fail
  go_quiet (first
    | (go_at_fn 70; first | exact Calls.quiet_of (hy _) | exact Calls.quiet_of (hx _))
    | (go_at_call 74; refine Calls.quiet_of (hU _)))
  go_wp2
  go_ret
  exact ⟨rfl, _, rfl⟩
/-! ### the insertion sort, SortStableFunc, SortedStableFunc, ranked: functions 145, 128, 98, 71, 46 -/
def hashSv (key : ByteArray) (x : Srv) : Int := hashT (keyT key x.1)
theorem ltOf_sv (key : ByteArray) (x y : Srv) : ltOf (cmpSv key) x y = decide (hashSv key y < hashSv key x) := by
  unfold ltOf cmpSv hashSv
  by_cases c : hashT (keyT key y.1) < hashT (keyT key x.1)
  · rw [if_pos c, decide_eq_true c]; rfl
  · rw [if_neg c, decide_eq_false c]
    split <;> rfl
theorem sw_other {α : Type} [Inhabited α] (enc : α → Value) (W : World) (blk off n : Nat) (dk : Array α) (os : Array Obj) (a : Addr) (h1 : a.block ≠ blk) (h2 : a.block < W.heap.size) : (sortWorld enc W blk off n dk os).cell? a = W.cell? a := by
  unfold sortWorld
  rw [Sort.cell?_grow _ _ _ (by rw [size_putRow]; exact h2), Sort.cell?_putRow_other _ _ _ _ _ _ (.inl h1)]
  rfl
theorem one_cell_sv : OneCell encSv := fun _ => rfl
theorem rk145 (key : ByteArray) (hk : key.size ≤ 1152921504606846976) (b b5 blk cap : Nat) (l : List Srv) (w : World) (hb : b ≠ blk) (hb5 : b5 ≠ blk) (hbl : b < w.heap.size) (hbl5 : b5 < w.heap.size) (hblk : blk < w.heap.size)
    (hc : w.cell? ⟨b, 0, none⟩ = some (.string key)) (hc5 : w.cell? ⟨b5, 0, none⟩ = some (.func (.func 70) #[] #[.pointer (some ⟨b, 0, none⟩)])) (hH : Sort.Holds encSv w blk 0 l.toArray) (hsz : l.length ≤ 1000) :
    Calls Tryd.prog 145 #[.slice (some ⟨blk, 0, none⟩) l.length cap, .int .i64 0, .int .i64 l.length, .func (.func 73) #[] #[.pointer (some ⟨b5, 0, none⟩)]] w fun e w' => e = .returned (.tuple #[]) ∧ SW encSv w blk 0 (rankL (hashSv key) l).toArray w' := by
  have eg : ∀ args w, (callFunc 73 args).run Tryd.prog w = .ok (.enter 73 args) w := enters_of Tryd.func73 (by kernel_rfl) rfl
  have hcmp : CmpReads Tryd.prog 73 #[.pointer (some ⟨b5, 0, none⟩)] encSv (cmpSv key) blk 0 l.toArray.size w := fun m os dk _ x y =>
    rk73 key b b5 x y _ ((sw_other encSv w blk 0 m dk os ⟨b, 0, none⟩ hb hbl).trans hc) ((sw_other encSv w blk 0 m dk os ⟨b5, 0, none⟩ hb5 hbl5).trans hc5) hk
  have h := Any.insertionSortCmpFunc_s rk20 encSv (cmpSv key) 73 #[.pointer (some ⟨b5, 0, none⟩)] blk 0 cap 0 l.length l.toArray l.toArray w w eg hcmp.lays ⟨one_cell_sv, hH, hblk⟩ rfl (SW.start hH) (Nat.zero_le _) (by simp) (by simp; omega)
  rw [insSort_list (hashSv key) _ (ltOf_sv key)] at h
  exact h
set_option maxHeartbeats 1000000 in
set_option maxRecDepth 100000 in
theorem rk145nil (fv : Value) (a : Option Addr) (c : Nat) (w : World) : Calls Tryd.prog 145 #[.slice a 0 c, .int .i64 0, .int .i64 0, fv] w fun e w' => e = .returned (.tuple #[]) ∧ w' = w := by
  go_enter Tryd.func145, Tryd.ntmps145
  go_wp2
  go_loopg [8] 0 (fun _ vi wr => vi = .int .i64 1 ∧ wr = w)
  case atStart => exact ⟨by go_num, rfl⟩
  case round =>
    obtain ⟨rfl, rfl⟩ := hrel
    go_wp2
    go_end0
    exact ⟨rfl, rfl⟩
set_option maxHeartbeats 2000000 in
set_option maxRecDepth 100000 in
theorem rk128 (sv fv : Value) (n : Nat) (hn : n < 20) (w : World) (Q : World → Prop) (h : Calls Tryd.prog 145 #[sv, .int .i64 0, .int .i64 n, fv] w fun e w' => e = .returned (.tuple #[]) ∧ Q w') :
    Calls Tryd.prog 128 #[sv, .int .i64 n, fv] w fun e w' => e = .returned (.tuple #[]) ∧ Q w' := by
  have h1 : ¬ (20 : Int) ≤ (n : Int) := by omega
  have h2 : ¬ (20 : Int) < (n : Int) := by omega
  have H := Aside0.mk h
  clear h hn
  go_enter Tryd.func128, Tryd.ntmps128
  go_wp2
  go_loopg [7, 8] 0 (fun _ v7 v8 wr => v7 = .int .i64 0 ∧ v8 = .int .i64 20 ∧ wr = w)
  case atStart => exact ⟨rfl, rfl, rfl⟩
  case round =>
    obtain ⟨rfl, rfl, rfl⟩ := hrel
    go_wp2_with (go_at_call 145; refine H.out.mono ?_; rintro e w2 ⟨rfl, hQ⟩; have HQ := Aside0.mk hQ; clear hQ)
    go_loopg [6, 7, 8] 0 (fun _ v6 _ _ wr => v6 = .int .i64 20 ∧ wr = w2)
    case atStart => exact ⟨rfl, rfl⟩
    case round =>
      obtain ⟨rfl, rfl⟩ := hrel
      go_wp2
      go_end0
      exact ⟨rfl, HQ.out⟩
set_option maxHeartbeats 2000000 in
set_option maxRecDepth 100000 in
theorem rk98 (A : Option Addr) (n c : Nat) (fv : Value) (hn : n < 20) (w : World) (Q : World → Prop) (h : Calls Tryd.prog 145 #[.slice A n c, .int .i64 0, .int .i64 n, fv] w fun e w' => e = .returned (.tuple #[]) ∧ Q w') :
    Calls Tryd.prog 98 #[.slice A n c, fv] w fun e w' => e = .returned (.tuple #[]) ∧ Q w' := by
  have H := Aside0.mk (rk128 (.slice A n c) fv n hn w Q h)
  clear h
  go_enter Tryd.func98, Tryd.ntmps98
  go_wp2_with (go_at_call 128; refine H.out.mono ?_; rintro e w2 ⟨rfl, hQ⟩; have HQ := Aside0.mk hQ; clear hQ)
  go_end0
  exact ⟨rfl, HQ.out⟩
theorem rk98s (key : ByteArray) (hk : key.size ≤ 1152921504606846976) (b b5 base : Nat) (A : Option Addr) (c : Nat) (zs : List Srv) (hl : zs.length < 20) (w : World) (hrow : w.ownsRow base 3 1 (.slice A zs.length c) zs.length (zs.map encSv)) (hbase : base ≤ w.heap.size) (hb : b < base) (hb5 : b5 < base)
    (hc : w.cell? ⟨b, 0, none⟩ = some (.string key)) (hc5 : w.cell? ⟨b5, 0, none⟩ = some (.func (.func 70) #[] #[.pointer (some ⟨b, 0, none⟩)])) :
    Calls Tryd.prog 98 #[.slice A zs.length c, .func (.func 73) #[] #[.pointer (some ⟨b5, 0, none⟩)]] w fun e w' => e = .returned (.tuple #[]) ∧ (w'.ownsRow base 3 1 (.slice A zs.length c) zs.length ((rankL (hashSv key) zs).map encSv) ∧ Below base w w') := by
  refine rk98 A zs.length c _ hl w _ ?_
  by_cases h0 : zs = []
  · subst h0
    refine (rk145nil _ A c w).mono ?_
    rintro e w' ⟨rfl, rfl⟩
    exact ⟨rfl, hrow, Below.refl _ _⟩
  · have hne : (.slice A zs.length c : Value) ≠ .slice none 0 0 := fun e => h0 (List.eq_nil_of_length_eq_zero (by injection e with _ h _))
    obtain ⟨g, cap, e, hg, hlt, _, _, _, hH⟩ := Lib.holds_of_ownsRow hrow hne
    cases e
    refine (rk145 key hk b b5 g c zs w (by omega) (by omega) (by omega) (by omega) hlt hc hc5 hH (by omega)).mono ?_
    rintro e w' ⟨rfl, m, os, rfl⟩
    have h1 := Lib.ownsRow_putRow (q := m) (ys := rankL (hashSv key) zs) hrow (rankL_length _ _) (Nat.le_refl _)
    rw [List.take_of_length_le (by rw [rankL_length]; exact Nat.le_refl _)] at h1
    have h2 : Below base w (Sort.putRow encSv (Sort.ahead w m) g 0 (rankL (hashSv key) zs).toArray) := Lib.below_putRow (Below.refl _ _) hg
    refine ⟨rfl, own_move h1 (fun k hk => Sort.heap_grow_old _ _ (own_lt h1 k hk)), h2.trans ?_⟩
    exact Lib.below_grow base _ (Nat.le_trans hbase h2.size) 0 os
set_option maxHeartbeats 1000000 in
theorem rk72 (a : Option Addr) (len cap : Nat) (w : World) :
    Calls Tryd.prog 72 #[.slice a len cap] w fun e w' => e = .returned (.func (.func 99) #[] #[.pointer (some ⟨w.heap.size, 0, none⟩)]) ∧ w' = w.alloc (.cells #[.slice a len cap] 22) := by
  go_enter Tryd.func72, Tryd.ntmps72
  go_wp2
  go_ret
  exact ⟨rfl, rfl⟩
theorem holds_below2 {w w2 : World} {sv : Value} {zs : List Int} {o : Obj} (h : HoldsInts w.heap.size w sv zs) (hB : Below w.heap.size w w2) : HoldsInts (w2.alloc o).heap.size (w2.alloc o) sv zs := by
  have h1 := HoldsInts.below (hB.trans (((Below.refl w2.heap.size w2).alloc (Nat.le_refl _) o).mono hB.size)) h
  rcases h1 with e | ⟨b, off, cap, e, hb, hc⟩
  · exact .inl e
  · exact .inr ⟨b, off, cap, e, by have := hB.size; simp; omega, hc⟩
set_option maxHeartbeats 2000000 in
set_option maxRecDepth 100000 in
theorem rk71 (key : ByteArray) (hk : key.size ≤ 1152921504606846976) (b b5 Bs : Nat) (sv : Value) (zs : List Srv) (hl : zs.length < 20) (w : World) (hb : b < w.heap.size) (hb5 : b5 < w.heap.size) (hBs : Bs < w.heap.size)
    (hc : w.cell? ⟨b, 0, none⟩ = some (.string key)) (hc5 : w.cell? ⟨b5, 0, none⟩ = some (.func (.func 70) #[] #[.pointer (some ⟨b, 0, none⟩)])) (hcs : w.cell? ⟨Bs, 0, none⟩ = some sv) (hI : HoldsInts w.heap.size w sv (zs.map (·.1))) :
    Calls Tryd.prog 71 #[.func (.func 99) #[] #[.pointer (some ⟨Bs, 0, none⟩)], .func (.func 73) #[] #[.pointer (some ⟨b5, 0, none⟩)]] w fun e w' => ∃ v, e = .returned v ∧ w'.ownsRow w.heap.size 3 1 v zs.length ((rankL (hashSv key) zs).map encSv) ∧ Below w.heap.size w w' := by
  have H := Aside0.mk (collect Bs sv (zs.map (·.1)) (by rw [List.length_map]; omega) w hBs hcs hI)
  have HC := Aside0.mk hc
  have HC5 := Aside0.mk hc5
  clear hc hc5 hcs hI
  go_enter Tryd.func71, Tryd.ntmps71
  go_wp2_with (first
    | (go_at_call 97; refine H.out.mono ?_; rintro e w1 ⟨v, rfl, hrow, _, hB⟩; rw [List.length_map, List.map_map] at hrow; obtain ⟨A, c, rfl⟩ := own_slice hrow; have HR := Aside0.mk hrow; have HB := Aside0.mk hB; clear hrow hB)
    | (go_at_call 98; refine (rk98s key hk b b5 w.heap.size A c zs hl w1 HR.out HB.out.size hb hb5 ((HB.out.cell (p := ⟨b, 0, none⟩) hb).trans HC.out) ((HB.out.cell (p := ⟨b5, 0, none⟩) hb5).trans HC5.out)).mono ?_; rintro e w2 ⟨rfl, hrow, hB⟩; have HR2 := Aside0.mk hrow; have HB2 := Aside0.mk (HB.out.trans hB); clear hrow hB))
  go_ret
  exact ⟨_, rfl, HR2.out, HB2.out⟩
theorem sv_of : ∀ l : List Int, (∀ x ∈ l, 0 ≤ x ∧ x < 100) → ∃ zs : List Srv, zs.map (·.1) = l
  | [], _ => ⟨[], rfl⟩
  | x :: l, h => by
    obtain ⟨zs, e⟩ := sv_of l (fun y hy => h y (List.mem_cons_of_mem _ hy))
    exact ⟨⟨x, h x List.mem_cons_self⟩ :: zs, by rw [List.map_cons, e]⟩
theorem holds_arg (w : World) (A : Option Addr) (c : Nat) (l : List Int) (hr : Kd.C (Kd.int .i64) w A l.length l) : HoldsInts w.heap.size w (.slice A l.length c) l := by
  cases hn : l with
  | nil => exact .inl ⟨⟨A, c, rfl⟩, rfl⟩
  | cons x0 l0 =>
    rw [← hn]
    have hpos : 0 < l.length := by rw [hn]; simp
    have at_ : ∀ j : Nat, j < l.length → ∃ ad, A = some ad ∧ w.cell? (ad.add j) = some (.int .i64 (l[j]?.getD 0)) := fun j hj => by
      obtain ⟨ad, e, h⟩ := Kd.at_int hr (j : Int) (by omega) (by omega)
      refine ⟨ad, e, ?_⟩
      rw [Int.toNat_natCast] at h
      rw [h]
      unfold rd
      rw [Int.toNat_natCast, List.getD_eq_getElem?_getD]
    obtain ⟨ad, rfl, h0⟩ := at_ 0 hpos
    have h0' : w.cell? ad = some (.int .i64 (l[0]?.getD 0)) := by simpa [Addr.add] using h0
    obtain ⟨blk, off, spot⟩ := ad
    have hs : spot = none := by
      cases spot with
      | none => rfl
      | some s =>
        exfalso
        unfold World.cell? at h0'
        split at h0' <;> simp at h0'
    subst hs
    have hblk : blk < w.heap.size := by
      unfold World.cell? at h0'
      rcases Nat.lt_or_ge blk w.heap.size with h | h
      · exact h
      · rw [show w.heap[(⟨blk, off, none⟩ : Addr).block]? = none from Array.getElem?_eq_none h] at h0'
        cases h0'
    refine .inr ⟨blk, off, c, rfl, hblk, fun j hj => ?_⟩
    obtain ⟨ad', e, h⟩ := at_ j hj
    cases e
    rw [← h]
    unfold Addr.add
    split
    · rename_i e; subst e; rfl
    · rfl
def impl_ranked.f (l0 : List Int) (a1 : ByteArray) : Option (List Int) := if l0.length < 20 ∧ (∀ x ∈ l0, 0 ≤ x ∧ x < 100) ∧ a1.size ≤ 1152921504606846976 then some (rankL (fun x => hashT (keyT a1 x)) l0) else none
set_option maxHeartbeats 2000000 in
set_option maxRecDepth 100000 in
theorem impl_ranked.calls (A0 : Option Addr) (c0 : Nat) (l0 : List Int) (a1 : ByteArray) (r : List Int) (w : World) (hr0 : Kd.C (Kd.int .i64) w A0 l0.length l0) (hc0 : l0.length ≤ c0) (h : impl_ranked.f l0 a1 = some r) :
    Calls Tryd.prog 46 #[.slice A0 l0.length c0, .string a1] w fun e w' => ∃ v0_ : Value, e = .returned (v0_) ∧ Kd.R (Kd.int .i64) 3 w' w.heap.size (fun _ => True) v0_ r ∧ Below w.heap.size w w' := by
  unfold impl_ranked.f at h
  split at h
  rotate_left
  · cases h
  rename_i hcond
  obtain ⟨hl, hx, hk⟩ := hcond
  obtain rfl := Option.some.inj h
  clear h
  obtain ⟨zs, hz⟩ := sv_of l0 hx
  have hlen : zs.length = l0.length := by rw [← hz, List.length_map]
  have hrk : (rankL (hashSv a1) zs).map encSv = (rankL (fun x => hashT (keyT a1 x)) l0).map (Value.int .i64) := by
    rw [← hz, ← rankL_map (fun x : Srv => x.1) (hashSv a1) _ (fun _ => rfl), List.map_map]
    rfl
  have HI : Aside0 (HoldsInts w.heap.size w (.slice A0 l0.length c0) (zs.map (·.1))) := ⟨by rw [hz]; exact holds_arg w A0 c0 l0 hr0⟩
  have e70 : ∀ args w, (callFunc 70 args).run Tryd.prog w = .ok (.enter 70 args) w := enters_of Tryd.func70 (by kernel_rfl) rfl
  obtain ⟨w2, hw2⟩ : ∃ w2, ((w.alloc (.cells #[.string a1] 9)).alloc (.cells #[Value.nilFunc] 90)).setCell ⟨w.heap.size + 1, 0, none⟩ (.func (.func 70) #[] #[.pointer (some ⟨w.heap.size, 0, none⟩)]) = w2 := ⟨_, rfl⟩
  have hB2 : Aside0 (Below w.heap.size w w2) := ⟨by rw [← hw2]; exact (((Below.refl _ w).alloc (Nat.le_refl _) _).alloc (by simp) _).setCell (by simp) _⟩
  have hs2 : Aside0 (w2.heap.size = w.heap.size + 2) := ⟨by rw [← hw2]; simp [World.setCell]⟩
  have hk1 : Aside0 (w2.cell? ⟨w.heap.size, 0, none⟩ = some (.string a1)) := ⟨by
    rw [← hw2, World.cell?_setCell_other _ _ _ _ (by intro e; simp only [Addr.mk.injEq] at e; omega)]
    exact ((Boxed.new w 9 (.string a1)).alloc _).cell⟩
  have hk2 : Aside0 (w2.cell? ⟨w.heap.size + 1, 0, none⟩ = some (.func (.func 70) #[] #[.pointer (some ⟨w.heap.size, 0, none⟩)])) := ⟨by
    rw [← hw2]
    have hb := Boxed.new (w.alloc (.cells #[.string a1] 9)) 90 Value.nilFunc
    rw [World.size_alloc] at hb
    exact (hb.set _).cell⟩
  have hbx := Boxed.new (w.alloc (.cells #[.string a1] 9)) 90 Value.nilFunc
  rw [World.size_alloc] at hbx
  have hz1 := hbx.cell
  have hz2 := hbx.frozen
  clear hbx
  go_enter Tryd.func46, Tryd.ntmps46
  go_wp2_with (first
    | (go_at_call 72; refine (rk72 A0 l0.length c0 w2).mono ?_; rintro e w3 ⟨rfl, rfl⟩; have hS := Aside0.mk (Boxed.new w2 22 (.slice A0 l0.length c0)).cell)
    | (go_at_call 71; refine (rk71 a1 hk w.heap.size (w.heap.size + 1) w2.heap.size (.slice A0 l0.length c0) zs (by omega) (w2.alloc (.cells #[.slice A0 l0.length c0] 22)) (by have := hs2.out; simp; omega) (by have := hs2.out; simp; omega) (by simp) ?k1 ?k2 hS.out ?k3).mono ?_; (case k1 => exact ((Below.refl w2.heap.size w2).alloc (Nat.le_refl _) _).cell (p := ⟨w.heap.size, 0, none⟩) (by have := hs2.out; show w.heap.size < w2.heap.size; omega) |>.trans hk1.out); (case k2 => exact ((Below.refl w2.heap.size w2).alloc (Nat.le_refl _) _).cell (p := ⟨w.heap.size + 1, 0, none⟩) (by have := hs2.out; show w.heap.size + 1 < w2.heap.size; omega) |>.trans hk2.out); (case k3 => exact holds_below2 HI.out hB2.out); rintro e w4 ⟨v, rfl, hrow, hB⟩; have HR := Aside0.mk hrow; have HB := Aside0.mk hB; clear hrow hB))

  go_ret
  refine ⟨_, rfl, ?_, ?_⟩
  · rw [hrk, hlen] at HR
    exact Kd.R_of_own (own_weaken (by rw [rankL_length]; exact HR.out) (by have := hs2.out; simp; omega)) (fun _ _ => trivial)
  · exact hB2.out.trans (((Below.refl w2.heap.size w2).alloc (Nat.le_refl _) _).mono (by have := hs2.out; omega) |>.trans (HB.out.mono (by have := hs2.out; simp; omega)))

/-! ### impl_RendezvousOf: function 11 -/
def impl_RendezvousOf.f (k : Nat) (l0 : List Int) (a1 : ByteArray) : Option (Int × Bool) := (impl_areServers.f k l0).bind fun t165 => (if t165 = true then (if (l0.length : Int) = 0 then (some (0, false)) else ((impl_ranked.f l0 a1).bind fun t166 => (if 0 < (t166.length : Int) then (some (rd t166 0, true)) else (none)))) else (some (0, false)))
theorem impl_RendezvousOf.mono : ∀ a0 a1 k, LeO (impl_RendezvousOf.f k a0 a1) (impl_RendezvousOf.f (k + 1) a0 a1) := by
  intro a0 a1 k
  unfold impl_RendezvousOf.f
  repeat' first
      | (with_reducible exact impl_areServers.mono _ _)
      | (with_reducible exact LeO.refl _)
      | (with_reducible exact LeO.none _)
      | (with_reducible refine LeO.ite ?_ ?_)
      | (with_reducible refine LeO.bind ?_ (fun _ => ?_))
      | exact impl_areServers.mono _ _
      | exact LeO.none _
      | refine LeO.ite ?_ ?_
      | refine LeO.bind ?_ (fun _ => ?_)
set_option maxHeartbeats 8000000 in
set_option maxRecDepth 100000 in
theorem impl_RendezvousOf.calls (k : Nat) (A0 : Option Addr) (c0 : Nat) (l0 : List Int) (a1 : ByteArray) (r1 : Int) (r2 : Bool) (w : World) (hr0 : Kd.C (Kd.int .i64) w A0 l0.length l0) (hc0 : l0.length ≤ c0) (h : impl_RendezvousOf.f k l0 a1 = some (r1, r2)) :
    Calls Tryd.prog 11 #[.slice A0 l0.length c0, .string a1] w fun e w' => e = .returned (.tuple #[.int .i64 r1, .bool r2]) ∧ Below w.heap.size w w' := by
  have HR0 := Aside0.mk hr0
  have HC0 := Aside0.mk hc0
  clear hr0 hc0
  have HB := Aside0.mk (Below.refl w.heap.size w)
  have H : ((impl_areServers.f k l0).bind fun t165 => (if t165 = true then (if (l0.length : Int) = 0 then (some (0, false)) else ((impl_ranked.f l0 a1).bind fun t166 => (if 0 < (t166.length : Int) then (some (rd t166 0, true)) else (none)))) else (some (0, false)))) = some (r1, r2) := h
  clear h
  replace H := Option.bind_eq_some_iff.mp H
  obtain ⟨t165, A30, H⟩ := H
  replace H : (if t165 = true then (if (l0.length : Int) = 0 then (some (0, false)) else ((impl_ranked.f l0 a1).bind fun t166 => (if 0 < (t166.length : Int) then (some (rd t166 0, true)) else (none)))) else (some (0, false))) = some (r1, r2) := H
  have A3 := Aside0.mk A30
  clear A30
  by_cases c4 : t165 = true
  · subst c4
    have H1 : (if (l0.length : Int) = 0 then (some (0, false)) else ((impl_ranked.f l0 a1).bind fun t166 => (if 0 < (t166.length : Int) then (some (rd t166 0, true)) else (none)))) = some (r1, r2) := by rw [if_pos rfl] at H; exact H
    clear H
    have H := H1
    clear H1
    by_cases c5 : (l0.length : Int) = 0
    · rw [if_pos c5] at H
      have c5b0 : ((l0.length : Int) == 0) = true := beq_iff_eq.mpr c5
      have c5b1 : ((l0.length : Int) != 0) = false := bne_eq_false_iff_eq.mpr c5
      clear c5
      simp only [Option.some.injEq, Prod.mk.injEq] at H
      obtain ⟨rfl, rfl⟩ := H
      go_enter Tryd.func11, Tryd.ntmps11
      go_wp2_with (first | ((with_reducible refine gate_callee (f := 45) rfl ?_); refine goesL_ (some 7) rfl rfl Tryd.func45 (by kernel_rfl) rfl #[.slice A0 l0.length c0] rfl (by (try simp only [List.map_toArray, List.map_cons, List.map_nil]); first | done | rfl | (simp only [List.length_drop, List.length_take]; rfl)) ?_; (with_reducible refine (impl_areServers.calls k _ _ l0 true _ ?side1 ?side2 A3.out).mono ?_); (case side1 => repeat (first | exact HR0.out | (with_reducible refine Kd.C_alloc ?_ _) | (with_reducible refine Kd.C_drewN ?_ _) | (with_reducible refine Kd.C_drew ?_))); (case side2 => exact HC0.out); rintro e w6 ⟨rfl, hb⟩; refine ⟨_, rfl, ?_⟩; have n0_ := Aside0.mk (below_step (by repeat (first | (with_reducible first | exact HB.out | apply below_alloc | apply pw_below_drewN | apply below_drew1) | exact HB.out)) hb); clear HB; have HB := n0_; clear n0_; (try clear hb); (try clear hb2); (try clear hk); (try clear hi)))
      go_ret2
      exact ⟨by first | rfl | (simp [errW_none, errW_some] <;> rfl) | (simp [*, errW_none, errW_some] <;> rfl), by repeat (first | (with_reducible first | exact HB.out | apply below_alloc | apply pw_below_drewN | apply below_drew1) | exact HB.out)⟩
    · rw [if_neg c5] at H
      have c5b0 : ((l0.length : Int) == 0) = false := beq_eq_false_iff_ne.mpr c5
      have c5b1 : ((l0.length : Int) != 0) = true := bne_iff_ne.mpr c5
      have c5b2 : ¬ (l0 = []) := fun h_ => c5 (by rw [h_]; rfl)
      replace H := Option.bind_eq_some_iff.mp H
      obtain ⟨t166, A70, H⟩ := H
      replace H : (if 0 < (t166.length : Int) then (some (rd t166 0, true)) else (none)) = some (r1, r2) := H
      have A7 := Aside0.mk A70
      clear A70
      by_cases c8 : 0 < (t166.length : Int)
      · rw [if_pos c8] at H
        have c8b0 : decide (0 < (t166.length : Int)) = true := decide_eq_true c8
        have c8b1 : decide (0 < t166.length) = true := decide_eq_true (by omega)
        clear c8
        simp only [Option.some.injEq, Prod.mk.injEq] at H
        obtain ⟨rfl, rfl⟩ := H
        go_enter Tryd.func11, Tryd.ntmps11
        go_wp2_with (first | ((with_reducible refine gate_callee (f := 45) rfl ?_); refine goesL_ (some 7) rfl rfl Tryd.func45 (by kernel_rfl) rfl #[.slice A0 l0.length c0] rfl (by (try simp only [List.map_toArray, List.map_cons, List.map_nil]); first | done | rfl | (simp only [List.length_drop, List.length_take]; rfl)) ?_; (with_reducible refine (impl_areServers.calls k _ _ l0 true _ ?side1 ?side2 A3.out).mono ?_); (case side1 => repeat (first | exact HR0.out | (with_reducible refine Kd.C_alloc ?_ _) | (with_reducible refine Kd.C_drewN ?_ _) | (with_reducible refine Kd.C_drew ?_))); (case side2 => exact HC0.out); rintro e w9 ⟨rfl, hb⟩; refine ⟨_, rfl, ?_⟩; have n0_ := Aside0.mk (below_step (by repeat (first | (with_reducible first | exact HB.out | apply below_alloc | apply pw_below_drewN | apply below_drew1) | exact HB.out)) hb); clear HB; have HB := n0_; clear n0_; (try clear hb); (try clear hb2); (try clear hk); (try clear hi)) | ((with_reducible refine gate_callee (f := 46) rfl ?_); refine goesL_ (some 16) rfl rfl Tryd.func46 (by kernel_rfl) rfl #[.slice A0 l0.length c0, .string a1] rfl (by (try simp only [List.map_toArray, List.map_cons, List.map_nil]); first | done | rfl | (simp only [List.length_drop, List.length_take]; rfl)) ?_; (with_reducible refine (impl_ranked.calls _ _ l0 a1 t166 _ ?side1 ?side2 A7.out).mono ?_); (case side1 => repeat (first | exact (Kd.C_below HR0.out HB.out) | (with_reducible refine Kd.C_alloc ?_ _) | (with_reducible refine Kd.C_drewN ?_ _) | (with_reducible refine Kd.C_drew ?_))); (case side2 => exact HC0.out); rintro e w10 ⟨v167, rfl, ho0, hb⟩; refine ⟨_, rfl, ?_⟩; have n0_ := Aside0.mk (Kd.R_lower ho0 (below_size (by repeat (first | (with_reducible first | exact HB.out | apply below_alloc | apply pw_below_drewN | apply below_drew1) | exact HB.out)))); have n1_ := Aside0.mk (below_step (by repeat (first | (with_reducible first | exact HB.out | apply below_alloc | apply pw_below_drewN | apply below_drew1) | exact HB.out)) hb); clear HB; have HO168 := n0_; have HB := n1_; clear n0_ n1_; (try clear hb); (try clear hb2); (try clear hk); (try clear hi); (try clear ho0); obtain ⟨Ao11, co11, eo11⟩ := Kd.R_slice HO168.out; subst eo11; have p169 : 0 ≤ (0 : Int) := (by omega); have q169 : 0 < (t166.length : Int) := of_decide_eq_true (by first | (with_reducible assumption) | assumption); obtain ⟨ad169, e169, hx169_0⟩ := Kd.at_int (Kd.R_reads' HO168.out).2.2 0 p169 q169; cases e169; have qi169 : (0 < t166.length) = True := eq_true (by omega); (try rw [show ((0 : Int)).toNat = 0 from rfl] at hx169_0); (try rw [Addr.add_zero'] at hx169_0); replace p169 := eq_true p169; replace q169 := eq_true q169))
        go_ret2
        exact ⟨by first | rfl | (simp [errW_none, errW_some] <;> rfl) | (simp [*, errW_none, errW_some] <;> rfl), by repeat (first | (with_reducible first | exact HB.out | apply below_alloc | apply pw_below_drewN | apply below_drew1) | exact HB.out)⟩
      · rw [if_neg c8] at H
        exact absurd H (by simp)
  · replace c4 := Bool.eq_false_iff.mpr c4
    subst c4
    have H1 : (some (0, false)) = some (r1, r2) := by rw [if_neg (show ¬ (false = true) by decide)] at H; exact H
    clear H
    have H := H1
    clear H1
    simp only [Option.some.injEq, Prod.mk.injEq] at H
    obtain ⟨rfl, rfl⟩ := H
    go_enter Tryd.func11, Tryd.ntmps11
    go_wp2_with (first | ((with_reducible refine gate_callee (f := 45) rfl ?_); refine goesL_ (some 7) rfl rfl Tryd.func45 (by kernel_rfl) rfl #[.slice A0 l0.length c0] rfl (by (try simp only [List.map_toArray, List.map_cons, List.map_nil]); first | done | rfl | (simp only [List.length_drop, List.length_take]; rfl)) ?_; (with_reducible refine (impl_areServers.calls k _ _ l0 false _ ?side1 ?side2 A3.out).mono ?_); (case side1 => repeat (first | exact HR0.out | (with_reducible refine Kd.C_alloc ?_ _) | (with_reducible refine Kd.C_drewN ?_ _) | (with_reducible refine Kd.C_drew ?_))); (case side2 => exact HC0.out); rintro e w12 ⟨rfl, hb⟩; refine ⟨_, rfl, ?_⟩; have n0_ := Aside0.mk (below_step (by repeat (first | (with_reducible first | exact HB.out | apply below_alloc | apply pw_below_drewN | apply below_drew1) | exact HB.out)) hb); clear HB; have HB := n0_; clear n0_; (try clear hb); (try clear hb2); (try clear hk); (try clear hi)))
    go_ret2
    exact ⟨by first | rfl | (simp [errW_none, errW_some] <;> rfl) | (simp [*, errW_none, errW_some] <;> rfl), by repeat (first | (with_reducible first | exact HB.out | apply below_alloc | apply pw_below_drewN | apply below_drew1) | exact HB.out)⟩

/-! ### spec_RankedOf: function 13 -/
def spec_RankedOf.f (k : Nat) (l0 : List Int) (a1 : ByteArray) : Option (List Int × Bool) := (spec_l14Servers.f k l0).bind fun t170 => (if t170 = true then ((spec_l14Ranked.f k l0 a1).bind fun t171 => (some (t171, true))) else (some (([] : List Int), false)))
theorem spec_RankedOf.mono : ∀ a0 a1 k, LeO (spec_RankedOf.f k a0 a1) (spec_RankedOf.f (k + 1) a0 a1) := by
  intro a0 a1 k
  unfold spec_RankedOf.f
  repeat' first
      | (with_reducible exact spec_l14Ranked.mono _ _ _)
      | (with_reducible exact spec_l14Servers.mono _ _)
      | (with_reducible exact LeO.refl _)
      | (with_reducible exact LeO.none _)
      | (with_reducible refine LeO.ite ?_ ?_)
      | (with_reducible refine LeO.bind ?_ (fun _ => ?_))
      | exact spec_l14Ranked.mono _ _ _
      | exact spec_l14Servers.mono _ _
      | exact LeO.none _
      | refine LeO.ite ?_ ?_
      | refine LeO.bind ?_ (fun _ => ?_)
set_option maxHeartbeats 8000000 in
set_option maxRecDepth 100000 in
theorem spec_RankedOf.calls (k : Nat) (A0 : Option Addr) (c0 : Nat) (l0 : List Int) (a1 : ByteArray) (r1 : List Int) (r2 : Bool) (w : World) (hr0 : Kd.C (Kd.int .i64) w A0 l0.length l0) (hc0 : l0.length ≤ c0) (h : spec_RankedOf.f k l0 a1 = some (r1, r2)) :
    Calls Tryd.prog 13 #[.slice A0 l0.length c0, .string a1] w fun e w' => ∃ v0_ : Value, e = .returned (.tuple #[v0_, .bool r2]) ∧ Kd.R (Kd.int .i64) 3 w' w.heap.size (fun _ => True) v0_ r1 ∧ Below w.heap.size w w' := by
  have HR0 := Aside0.mk hr0
  have HC0 := Aside0.mk hc0
  clear hr0 hc0
  have HB := Aside0.mk (Below.refl w.heap.size w)
  have H : ((spec_l14Servers.f k l0).bind fun t170 => (if t170 = true then ((spec_l14Ranked.f k l0 a1).bind fun t171 => (some (t171, true))) else (some (([] : List Int), false)))) = some (r1, r2) := h
  clear h
  replace H := Option.bind_eq_some_iff.mp H
  obtain ⟨t170, A30, H⟩ := H
  replace H : (if t170 = true then ((spec_l14Ranked.f k l0 a1).bind fun t171 => (some (t171, true))) else (some (([] : List Int), false))) = some (r1, r2) := H
  have A3 := Aside0.mk A30
  clear A30
  by_cases c4 : t170 = true
  · subst c4
    have H1 : ((spec_l14Ranked.f k l0 a1).bind fun t171 => (some (t171, true))) = some (r1, r2) := by rw [if_pos rfl] at H; exact H
    clear H
    have H := H1
    clear H1
    replace H := Option.bind_eq_some_iff.mp H
    obtain ⟨t171, A50, H⟩ := H
    replace H : (some (t171, true)) = some (r1, r2) := H
    have A5 := Aside0.mk A50
    clear A50
    simp only [Option.some.injEq, Prod.mk.injEq] at H
    obtain ⟨rfl, rfl⟩ := H
    go_enter Tryd.func13, Tryd.ntmps13
    go_wp2_with (first | ((with_reducible refine gate_callee (f := 43) rfl ?_); refine goesL_ (some 7) rfl rfl Tryd.func43 (by kernel_rfl) rfl #[.slice A0 l0.length c0] rfl (by (try simp only [List.map_toArray, List.map_cons, List.map_nil]); first | done | rfl | (simp only [List.length_drop, List.length_take]; rfl)) ?_; (with_reducible refine (spec_l14Servers.calls k _ _ l0 true _ ?side1 ?side2 A3.out).mono ?_); (case side1 => repeat (first | exact HR0.out | (with_reducible refine Kd.C_alloc ?_ _) | (with_reducible refine Kd.C_drewN ?_ _) | (with_reducible refine Kd.C_drew ?_))); (case side2 => exact HC0.out); rintro e w' ⟨rfl, ⟨nd, rfl⟩⟩; refine ⟨_, rfl, ?_⟩) | ((with_reducible refine gate_callee (f := 44) rfl ?_); refine goesL_ (some 11) rfl rfl Tryd.func44 (by kernel_rfl) rfl #[.slice A0 l0.length c0, .string a1] rfl (by (try simp only [List.map_toArray, List.map_cons, List.map_nil]); first | done | rfl | (simp only [List.length_drop, List.length_take]; rfl)) ?_; (with_reducible refine (spec_l14Ranked.calls k _ _ l0 a1 t171 _ ?side1 ?side2 A5.out).mono ?_); (case side1 => repeat (first | exact HR0.out | (with_reducible refine Kd.C_alloc ?_ _) | (with_reducible refine Kd.C_drewN ?_ _) | (with_reducible refine Kd.C_drew ?_))); (case side2 => exact HC0.out); rintro e w6 ⟨v172, rfl, ho0, hb⟩; refine ⟨_, rfl, ?_⟩; have n0_ := Aside0.mk (Kd.R_lower ho0 (below_size (by repeat (first | (with_reducible first | exact HB.out | apply below_alloc | apply pw_below_drewN | apply below_drew1) | exact HB.out)))); have n1_ := Aside0.mk (below_step (by repeat (first | (with_reducible first | exact HB.out | apply below_alloc | apply pw_below_drewN | apply below_drew1) | exact HB.out)) hb); clear HB; have HO173 := n0_; have HB := n1_; clear n0_ n1_; (try clear hb); (try clear hb2); (try clear hk); (try clear hi); (try clear ho0)))
    go_ret2
    exact ⟨_, by first | rfl | (simp [errW_none, errW_some] <;> rfl) | (simp [*, errW_none, errW_some] <;> rfl), by (with_reducible repeat (first | apply Kd.R_alloc | apply Kd.R_drewN | apply Kd.R_drew)); exact HO173.out, by repeat (first | (with_reducible first | exact HB.out | apply below_alloc | apply pw_below_drewN | apply below_drew1) | exact HB.out)⟩
  · replace c4 := Bool.eq_false_iff.mpr c4
    subst c4
    have H1 : (some (([] : List Int), false)) = some (r1, r2) := by rw [if_neg (show ¬ (false = true) by decide)] at H; exact H
    clear H
    have H := H1
    clear H1
    simp only [Option.some.injEq, Prod.mk.injEq] at H
    obtain ⟨rfl, rfl⟩ := H
    go_enter Tryd.func13, Tryd.ntmps13
    go_wp2_with (first | ((with_reducible refine gate_callee (f := 43) rfl ?_); refine goesL_ (some 7) rfl rfl Tryd.func43 (by kernel_rfl) rfl #[.slice A0 l0.length c0] rfl (by (try simp only [List.map_toArray, List.map_cons, List.map_nil]); first | done | rfl | (simp only [List.length_drop, List.length_take]; rfl)) ?_; (with_reducible refine (spec_l14Servers.calls k _ _ l0 false _ ?side1 ?side2 A3.out).mono ?_); (case side1 => repeat (first | exact HR0.out | (with_reducible refine Kd.C_alloc ?_ _) | (with_reducible refine Kd.C_drewN ?_ _) | (with_reducible refine Kd.C_drew ?_))); (case side2 => exact HC0.out); rintro e w' ⟨rfl, ⟨nd, rfl⟩⟩; refine ⟨_, rfl, ?_⟩))
    go_ret2
    exact ⟨_, by first | rfl | (simp [errW_none, errW_some] <;> rfl) | (simp [*, errW_none, errW_some] <;> rfl), by first | exact Kd.R_nil _ _ _ _ _ | exact Kd.N_nil _ _ _ _ _ | exact Kd.V_nil _ _ _ _ _ | exact Kd.Q_nil _ _ _ _ _ | exact Kd.S_nil _ _ _ _ _, by repeat (first | (with_reducible first | exact HB.out | apply below_alloc | apply pw_below_drewN | apply below_drew1) | exact HB.out)⟩

/-! ### impl_RankedOf: function 14 -/
def impl_RankedOf.f (k : Nat) (l0 : List Int) (a1 : ByteArray) : Option (List Int × Bool) := (impl_areServers.f k l0).bind fun t174 => (if t174 = true then ((impl_ranked.f l0 a1).bind fun t175 => (some (t175, true))) else (some (([] : List Int), false)))
theorem impl_RankedOf.mono : ∀ a0 a1 k, LeO (impl_RankedOf.f k a0 a1) (impl_RankedOf.f (k + 1) a0 a1) := by
  intro a0 a1 k
  unfold impl_RankedOf.f
  repeat' first
      | (with_reducible exact impl_areServers.mono _ _)
      | (with_reducible exact LeO.refl _)
      | (with_reducible exact LeO.none _)
      | (with_reducible refine LeO.ite ?_ ?_)
      | (with_reducible refine LeO.bind ?_ (fun _ => ?_))
      | exact impl_areServers.mono _ _
      | exact LeO.none _
      | refine LeO.ite ?_ ?_
      | refine LeO.bind ?_ (fun _ => ?_)
set_option maxHeartbeats 8000000 in
set_option maxRecDepth 100000 in
theorem impl_RankedOf.calls (k : Nat) (A0 : Option Addr) (c0 : Nat) (l0 : List Int) (a1 : ByteArray) (r1 : List Int) (r2 : Bool) (w : World) (hr0 : Kd.C (Kd.int .i64) w A0 l0.length l0) (hc0 : l0.length ≤ c0) (h : impl_RankedOf.f k l0 a1 = some (r1, r2)) :
    Calls Tryd.prog 14 #[.slice A0 l0.length c0, .string a1] w fun e w' => ∃ v0_ : Value, e = .returned (.tuple #[v0_, .bool r2]) ∧ Kd.R (Kd.int .i64) 3 w' w.heap.size (fun _ => True) v0_ r1 ∧ Below w.heap.size w w' := by
  have HR0 := Aside0.mk hr0
  have HC0 := Aside0.mk hc0
  clear hr0 hc0
  have HB := Aside0.mk (Below.refl w.heap.size w)
  have H : ((impl_areServers.f k l0).bind fun t174 => (if t174 = true then ((impl_ranked.f l0 a1).bind fun t175 => (some (t175, true))) else (some (([] : List Int), false)))) = some (r1, r2) := h
  clear h
  replace H := Option.bind_eq_some_iff.mp H
  obtain ⟨t174, A30, H⟩ := H
  replace H : (if t174 = true then ((impl_ranked.f l0 a1).bind fun t175 => (some (t175, true))) else (some (([] : List Int), false))) = some (r1, r2) := H
  have A3 := Aside0.mk A30
  clear A30
  by_cases c4 : t174 = true
  · subst c4
    have H1 : ((impl_ranked.f l0 a1).bind fun t175 => (some (t175, true))) = some (r1, r2) := by rw [if_pos rfl] at H; exact H
    clear H
    have H := H1
    clear H1
    replace H := Option.bind_eq_some_iff.mp H
    obtain ⟨t175, A50, H⟩ := H
    replace H : (some (t175, true)) = some (r1, r2) := H
    have A5 := Aside0.mk A50
    clear A50
    simp only [Option.some.injEq, Prod.mk.injEq] at H
    obtain ⟨rfl, rfl⟩ := H
    go_enter Tryd.func14, Tryd.ntmps14
    go_wp2_with (first | ((with_reducible refine gate_callee (f := 45) rfl ?_); refine goesL_ (some 7) rfl rfl Tryd.func45 (by kernel_rfl) rfl #[.slice A0 l0.length c0] rfl (by (try simp only [List.map_toArray, List.map_cons, List.map_nil]); first | done | rfl | (simp only [List.length_drop, List.length_take]; rfl)) ?_; (with_reducible refine (impl_areServers.calls k _ _ l0 true _ ?side1 ?side2 A3.out).mono ?_); (case side1 => repeat (first | exact HR0.out | (with_reducible refine Kd.C_alloc ?_ _) | (with_reducible refine Kd.C_drewN ?_ _) | (with_reducible refine Kd.C_drew ?_))); (case side2 => exact HC0.out); rintro e w6 ⟨rfl, hb⟩; refine ⟨_, rfl, ?_⟩; have n0_ := Aside0.mk (below_step (by repeat (first | (with_reducible first | exact HB.out | apply below_alloc | apply pw_below_drewN | apply below_drew1) | exact HB.out)) hb); clear HB; have HB := n0_; clear n0_; (try clear hb); (try clear hb2); (try clear hk); (try clear hi)) | ((with_reducible refine gate_callee (f := 46) rfl ?_); refine goesL_ (some 11) rfl rfl Tryd.func46 (by kernel_rfl) rfl #[.slice A0 l0.length c0, .string a1] rfl (by (try simp only [List.map_toArray, List.map_cons, List.map_nil]); first | done | rfl | (simp only [List.length_drop, List.length_take]; rfl)) ?_; (with_reducible refine (impl_ranked.calls _ _ l0 a1 t175 _ ?side1 ?side2 A5.out).mono ?_); (case side1 => repeat (first | exact (Kd.C_below HR0.out HB.out) | (with_reducible refine Kd.C_alloc ?_ _) | (with_reducible refine Kd.C_drewN ?_ _) | (with_reducible refine Kd.C_drew ?_))); (case side2 => exact HC0.out); rintro e w7 ⟨v176, rfl, ho0, hb⟩; refine ⟨_, rfl, ?_⟩; have n0_ := Aside0.mk (Kd.R_lower ho0 (below_size (by repeat (first | (with_reducible first | exact HB.out | apply below_alloc | apply pw_below_drewN | apply below_drew1) | exact HB.out)))); have n1_ := Aside0.mk (below_step (by repeat (first | (with_reducible first | exact HB.out | apply below_alloc | apply pw_below_drewN | apply below_drew1) | exact HB.out)) hb); clear HB; have HO177 := n0_; have HB := n1_; clear n0_ n1_; (try clear hb); (try clear hb2); (try clear hk); (try clear hi); (try clear ho0)))
    go_ret2
    exact ⟨_, by first | rfl | (simp [errW_none, errW_some] <;> rfl) | (simp [*, errW_none, errW_some] <;> rfl), by (with_reducible repeat (first | apply Kd.R_alloc | apply Kd.R_drewN | apply Kd.R_drew)); exact HO177.out, by repeat (first | (with_reducible first | exact HB.out | apply below_alloc | apply pw_below_drewN | apply below_drew1) | exact HB.out)⟩
  · replace c4 := Bool.eq_false_iff.mpr c4
    subst c4
    have H1 : (some (([] : List Int), false)) = some (r1, r2) := by rw [if_neg (show ¬ (false = true) by decide)] at H; exact H
    clear H
    have H := H1
    clear H1
    simp only [Option.some.injEq, Prod.mk.injEq] at H
    obtain ⟨rfl, rfl⟩ := H
    go_enter Tryd.func14, Tryd.ntmps14
    go_wp2_with (first | ((with_reducible refine gate_callee (f := 45) rfl ?_); refine goesL_ (some 7) rfl rfl Tryd.func45 (by kernel_rfl) rfl #[.slice A0 l0.length c0] rfl (by (try simp only [List.map_toArray, List.map_cons, List.map_nil]); first | done | rfl | (simp only [List.length_drop, List.length_take]; rfl)) ?_; (with_reducible refine (impl_areServers.calls k _ _ l0 false _ ?side1 ?side2 A3.out).mono ?_); (case side1 => repeat (first | exact HR0.out | (with_reducible refine Kd.C_alloc ?_ _) | (with_reducible refine Kd.C_drewN ?_ _) | (with_reducible refine Kd.C_drew ?_))); (case side2 => exact HC0.out); rintro e w8 ⟨rfl, hb⟩; refine ⟨_, rfl, ?_⟩; have n0_ := Aside0.mk (below_step (by repeat (first | (with_reducible first | exact HB.out | apply below_alloc | apply pw_below_drewN | apply below_drew1) | exact HB.out)) hb); clear HB; have HB := n0_; clear n0_; (try clear hb); (try clear hb2); (try clear hk); (try clear hi)))
    go_ret2
    exact ⟨_, by first | rfl | (simp [errW_none, errW_some] <;> rfl) | (simp [*, errW_none, errW_some] <;> rfl), by first | exact Kd.R_nil _ _ _ _ _ | exact Kd.N_nil _ _ _ _ _ | exact Kd.V_nil _ _ _ _ _ | exact Kd.Q_nil _ _ _ _ _ | exact Kd.S_nil _ _ _ _ _, by repeat (first | (with_reducible first | exact HB.out | apply below_alloc | apply pw_below_drewN | apply below_drew1) | exact HB.out)⟩

end Go.Proofs.YtfopmaiednikhaaDoor.PFnRendezvous
