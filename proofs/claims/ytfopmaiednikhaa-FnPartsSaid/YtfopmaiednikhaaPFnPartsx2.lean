-- written by a program of this session (wip/tool)
import Derived.Test.YtfopmaiednikhaaPFnPartsx0
import Derived.Test.YtfopmaiednikhaaVOwn0
import Derived.Test.YtfopmaiednikhaaVOwnOpen
import Derived.WalkKit
import Derived.BigCall
import Derived.Lib.SliceRun
import Derived.Deep.RegionLaw
import Derived.Maps.OwnSet
import Derived.Maps.OwnOps
import Derived.Maps.Views
import Derived.Test.YtfopmaiednikhaaVWZeros
import Derived.Test.YtfopmaiednikhaaVWArr
import Derived.Test.YtfopmaiednikhaaVOwnShort
import Derived.Test.YtfopmaiednikhaaOwnSq
namespace Go.Proofs.Ytfopmaiednikhaa.PFnParts
open Go.RowKit Go.Proofs.YtfopmaiednikhaaW.PrintWords Go.Proofs.YtfopmaiednikhaaW.PrintLast Go.Proofs.YtfopmaiednikhaaW.PrintMore Go.Shelf Go.Proofs.YtfopmaiednikhaaOwn
attribute [local go_sem] max2_int min2_int max_two min_two max_three min_three max_four min_four   -- for this text's walks alone
set_option linter.unusedVariables false
set_option linter.unusedSimpArgs false

-- NOT PRINTED: function 86 (impl_Entry_86)

-- NOT PRINTED: function 74 (impl_Entry_74)

-- NOT PRINTED: function 75 (impl_Entry_1)

-- NOT PRINTED: function 50 (impl_Entry_50)

/-! ### impl_within: function 82 -/
def impl_within.f (a0 : Int) (a1 : Int) (a2 : Int) : Option (Bool) := if a1 ≤ a0 then (some (decide (a0 ≤ a2))) else (some false)
set_option maxHeartbeats 8000000 in
set_option maxRecDepth 100000 in
theorem impl_within.calls (a0 : Int) (a1 : Int) (a2 : Int) (r : Bool) (w : World) (h : impl_within.f a0 a1 a2 = some r) :
  Calls Try.prog 82 #[.int .i64 a0, .int .i64 a1, .int .i64 a2] w fun e w' => e = .returned (.bool r) ∧ Drawn0 w w' := by
 have H : (if a1 ≤ a0 then (some (decide (a0 ≤ a2))) else (some false)) = some r := h
 clear h
 by_cases c4 : a1 ≤ a0
 ·rw [if_pos c4] at H
  have c4b0 : decide (a1 ≤ a0) = true := decide_eq_true c4
  clear c4
  obtain rfl := Option.some.inj H
  go_enter Try.func82, Try.ntmps82
  go_wp2
  go_ret
  exact ⟨by first | rfl | (simp; done) | (simp [*]; done), by repeat (first | exact Drawn0.refl _ | apply Drawn0.step)⟩
 ·rw [if_neg c4] at H
  have c4b0 : decide (a1 ≤ a0) = false := decide_eq_false c4
  clear c4
  obtain rfl := Option.some.inj H
  go_enter Try.func82, Try.ntmps82
  go_wp2
  go_ret
  exact ⟨by first | rfl | (simp; done) | (simp [*]; done), by repeat (first | exact Drawn0.refl _ | apply Drawn0.step)⟩

/-! ### impl_isKey: function 76 -/
def impl_isKey.f (a0 : ByteArray) : Option (Bool) := (impl_within.f (a0.size : Int) 1 20).bind fun t101 => (some t101)
set_option maxHeartbeats 8000000 in
set_option maxRecDepth 100000 in
theorem impl_isKey.calls (a0 : ByteArray) (r : Bool) (w : World) (h : impl_isKey.f a0 = some r) :
  Calls Try.prog 76 #[.string a0] w fun e w' => e = .returned (.bool r) ∧ Drawn0 w w' := by
 have H : ((impl_within.f (a0.size : Int) 1 20).bind fun t101 => (some t101)) = some r := h
 clear h
 replace H := Option.bind_eq_some_iff.mp H
 obtain ⟨t101, A20, H⟩ := H
 try dsimp only at H
 have A2 := ak A20
 clear A20
 obtain rfl := Option.some.inj H
 go_enter Try.func76, Try.ntmps76
 go_wp2_with (first | (refine gL 82 Try.func82 (some 5) #[.int .i64 (a0.size : Int), .int .i64 1, .int .i64 20] ?_; (with_reducible refine (impl_within.calls (a0.size : Int) 1 20 t101 _ A2.out).mono ?_); rintro e w' ⟨rfl, ⟨nd, rfl⟩⟩; refine ⟨_, rfl, ?_⟩))
 go_ret
 exact ⟨by first | rfl | (simp; done) | (simp [*]; done), by repeat (first | exact Drawn0.refl _ | apply Drawn0.step)⟩

/-! ### impl_isEntry: function 51 -/
def impl_isEntry.f (a0_0 : ByteArray) (a0_1 : ByteArray) : Option (Bool) := (impl_isKey.f a0_0).bind fun t103 => (if t103 = true then (some (decide ((a0_1.size : Int) ≤ 60))) else (some false))
set_option maxHeartbeats 8000000 in
set_option maxRecDepth 100000 in
theorem impl_isEntry.calls (a0_0 : ByteArray) (a0_1 : ByteArray) (r : Bool) (w : World) (h : impl_isEntry.f a0_0 a0_1 = some r) :
  Calls Try.prog 51 #[.agg #[.string a0_0, .string a0_1]] w fun e w' => e = .returned (.bool r) ∧ Below w.heap.size w w' := by
 have hu45 := Try.underlying45
 have HB := ak (Below.refl w.heap.size w)
 have H : ((impl_isKey.f a0_0).bind fun t103 => (if t103 = true then (some (decide ((a0_1.size : Int) ≤ 60))) else (some false))) = some r := h
 clear h
 replace H := Option.bind_eq_some_iff.mp H
 obtain ⟨t103, A20, H⟩ := H
 try dsimp only at H
 have A2 := ak A20
 clear A20
 by_cases c3 : t103 = true
 ·subst c3
  have H1 : (some (decide ((a0_1.size : Int) ≤ 60))) = some r := by rw [if_pos rfl] at H; exact H
  clear H
  have H := H1
  clear H1
  obtain rfl := Option.some.inj H
  go_enter Try.func51, Try.ntmps51
  go_wp2_with (first | ((with_reducible refine gate_dst (N := 1) rfl ?_); (try (refine gate_guard (by rfl) ?_; dsimp only)); refine box_event ?hg (N := 1) ?hd (cs := #[.string a0_0, .string a0_1]) (t := 45) ?hr ?_; (case hd => rfl); (case hg => rfl); (case hr => first | (go_simp; done) | (go_simp; rfl)); intro gb102 hg w4 hbox hb; have BK102 := ak hbox; have GW102 := gs hg (bl HB.out); have GE102 := gs hg (bl HB.out); replace HB := ak (below_step (bl HB.out) hb); clear hb hbox hg; obtain ⟨hcz5_0, hcz5_1, hfz5_0, hfz5_1⟩ := b2 BK102.out) | (refine gL 76 Try.func76 (some 5) #[.string a0_0] ?_; (with_reducible refine (impl_isKey.calls a0_0 true _ A2.out).mono ?_); rintro e w' ⟨rfl, ⟨nd, rfl⟩⟩; refine ⟨_, rfl, ?_⟩))
  go_ret
  exact ⟨by first | rfl | (simp [errW_none, errW_some] <;> rfl) | (simp [*, errW_none, errW_some] <;> rfl), bl1 HB.out GE102.out⟩
 ·replace c3 := Bool.eq_false_iff.mpr c3
  subst c3
  have H1 : (some false) = some r := by rw [if_neg (show ¬ (false = true) by decide)] at H; exact H
  clear H
  have H := H1
  clear H1
  obtain rfl := Option.some.inj H
  go_enter Try.func51, Try.ntmps51
  go_wp2_with (first | ((with_reducible refine gate_dst (N := 1) rfl ?_); (try (refine gate_guard (by rfl) ?_; dsimp only)); refine box_event ?hg (N := 1) ?hd (cs := #[.string a0_0, .string a0_1]) (t := 45) ?hr ?_; (case hd => rfl); (case hg => rfl); (case hr => first | (go_simp; done) | (go_simp; rfl)); intro gb102 hg w6 hbox hb; have BK102 := ak hbox; have GW102 := gs hg (bl HB.out); have GE102 := gs hg (bl HB.out); replace HB := ak (below_step (bl HB.out) hb); clear hb hbox hg; obtain ⟨hcz7_0, hcz7_1, hfz7_0, hfz7_1⟩ := b2 BK102.out) | (refine gL 76 Try.func76 (some 5) #[.string a0_0] ?_; (with_reducible refine (impl_isKey.calls a0_0 false _ A2.out).mono ?_); rintro e w' ⟨rfl, ⟨nd, rfl⟩⟩; refine ⟨_, rfl, ?_⟩))
  go_ret
  exact ⟨by first | rfl | (simp [errW_none, errW_some] <;> rfl) | (simp [*, errW_none, errW_some] <;> rfl), bl1 HB.out GE102.out⟩

/-! ### impl_isRoom: function 58 -/
def impl_isRoom.f (a0 : Int) : Option (Bool) := (impl_within.f a0 100 2000).bind fun t104 => (some t104)
set_option maxHeartbeats 8000000 in
set_option maxRecDepth 100000 in
theorem impl_isRoom.calls (a0 : Int) (r : Bool) (w : World) (h : impl_isRoom.f a0 = some r) :
  Calls Try.prog 58 #[.int .i64 a0] w fun e w' => e = .returned (.bool r) ∧ Drawn0 w w' := by
 have H : ((impl_within.f a0 100 2000).bind fun t104 => (some t104)) = some r := h
 clear h
 replace H := Option.bind_eq_some_iff.mp H
 obtain ⟨t104, A20, H⟩ := H
 try dsimp only at H
 have A2 := ak A20
 clear A20
 obtain rfl := Option.some.inj H
 go_enter Try.func58, Try.ntmps58
 go_wp2_with (first | (refine gL 82 Try.func82 (some 4) #[.int .i64 a0, .int .i64 100, .int .i64 2000] ?_; (with_reducible refine (impl_within.calls a0 100 2000 t104 _ A2.out).mono ?_); rintro e w' ⟨rfl, ⟨nd, rfl⟩⟩; refine ⟨_, rfl, ?_⟩))
 go_ret
 exact ⟨by first | rfl | (simp; done) | (simp [*]; done), by repeat (first | exact Drawn0.refl _ | apply Drawn0.step)⟩

/-! ### impl_weight: function 65 -/
def impl_weight.l0 : Nat → Int → List (S45) → Int → Int → Option (Int)
 | 0, _, _, _, _ => none
 | k + 1, x3, x6, x7, x8 => if x8 < x7 then (if 0 ≤ x8 then (if x8 < (x6.length : Int) then (impl_weight.l0 k (wrap64 (x3 + (wrap64 ((((rd_T45 x6 x8).f0).size : Int) + (((rd_T45 x6 x8).f1).size : Int))))) x6 x7 (wrap64 (x8 + 1))) else (none)) else (none)) else (some x3)
def impl_weight.f (k : Nat) (l0 : List (S45)) : Option (Int) := impl_weight.l0 k 0 l0 (l0.length : Int) 0
theorem impl_weight.mono_l : ∀ k, (∀ y0 y1 y2 y3, LeO (impl_weight.l0 k y0 y1 y2 y3) (impl_weight.l0 (k + 1) y0 y1 y2 y3))
 | 0 => fun _ _ _ _ r h => by simp [impl_weight.l0] at h
 | k + 1 => by
  have ih0 := impl_weight.mono_l k
  ·intro y0 y1 y2 y3
   unfold impl_weight.l0
   repeat' first
   | (with_reducible exact ih0 _ _ _ _)
   | (with_reducible exact LeO.refl _)
   | (with_reducible exact LeO.none _)
   | (with_reducible refine LeO.ite ?_ ?_)
   | (with_reducible refine LeO.bind ?_ (fun _ => ?_))
   | exact ih0 _ _ _ _
   | exact LeO.none _
   | refine LeO.ite ?_ ?_
   | refine LeO.bind ?_ (fun _ => ?_)
theorem impl_weight.mono : ∀ a0 k, LeO (impl_weight.f k a0) (impl_weight.f (k + 1) a0) := by
 intro a0 k
 have ih0 := impl_weight.mono_l k
 unfold impl_weight.f
 repeat' first
   | (with_reducible exact ih0 _ _ _ _)
   | (with_reducible exact LeO.refl _)
   | (with_reducible exact LeO.none _)
   | (with_reducible refine LeO.ite ?_ ?_)
   | (with_reducible refine LeO.bind ?_ (fun _ => ?_))
   | exact ih0 _ _ _ _
   | exact LeO.none _
   | refine LeO.ite ?_ ?_
   | refine LeO.bind ?_ (fun _ => ?_)
set_option maxHeartbeats 8000000 in
set_option maxRecDepth 100000 in
theorem impl_weight.calls (k : Nat) (A0 : Option Addr) (c0 : Nat) (l0 : List (S45)) (r : Int) (w : World) (hr0 : Kd.C k45 w A0 l0.length l0) (hc0 : l0.length ≤ c0) (h : impl_weight.f k l0 = some r) :
  Calls Try.prog 65 #[.slice A0 l0.length c0] w fun e w' => e = .returned (.int .i64 r) ∧ Below w.heap.size w w' := by
 have hu45 := Try.underlying45
 have HR0 := ak hr0
 have HC0 := ak hc0
 clear hr0 hc0
 have HB := ak (Below.refl w.heap.size w)
 have H : (impl_weight.l0 k 0 l0 (l0.length : Int) 0) = some r := h
 clear h
 have H' := ak H
 clear H
 go_enter Try.func65, Try.ntmps65
 go_wp2
 go_loopg [3, 8] k (fun kq v3 v8 w' => ∃ (x3_1 : Int) (x8_1 : Int), v3 = .int .i64 x3_1 ∧ v8 = .int .i64 x8_1 ∧ Aside0 (impl_weight.l0 kq x3_1 l0 (l0.length : Int) x8_1 = some r) ∧ Aside0 (kq ≤ k) ∧ Aside0 (Below w.heap.size w w'))
 case atStart => exact ⟨(0), (0), (by first | rfl | (simp; done) | (simp [*]; done)), (by first | rfl | (simp; done) | (simp [*]; done)), H', ⟨Nat.le_refl _⟩, ⟨bl HB.out⟩⟩
 case round =>
  clear H'
  obtain ⟨x3_1, x8_1, rfl, rfl, HA, HK1, HB⟩ := hrel
  cases gk with
  | zero => exact absurd HA.out (by simp [impl_weight.l0])
  | succ k1 =>
   have H := HA.out
   clear HA
   simp only [impl_weight.l0] at H
   by_cases c2 : x8_1 < (l0.length : Int)
   ·rw [if_pos c2] at H
    have c2b0 : decide (x8_1 < (l0.length : Int)) = true := decide_eq_true c2
    clear c2
    by_cases c3 : 0 ≤ x8_1
    ·rw [if_pos c3] at H
     have c3b0 : decide (0 ≤ x8_1) = true := decide_eq_true c3
     clear c3
     by_cases c4 : x8_1 < (l0.length : Int)
     ·rw [if_pos c4] at H
      have c4b0 : decide (x8_1 < (l0.length : Int)) = true := decide_eq_true c4
      clear c4
      have H' := ak H
      clear H
      have p105 : 0 ≤ (x8_1 : Int) := od
      have q105 : x8_1 < (l0.length : Int) := od
      obtain ⟨ad105, e105, hx105_0, hx105_1⟩ := at_T45 HR0.out x8_1 p105 q105
      cases e105
      replace hx105_0 := (HB.out.cell (World.block_lt_of_cell? w _ hx105_0)).trans hx105_0
      replace hx105_1 := (HB.out.cell (World.block_lt_of_cell? w _ hx105_1)).trans hx105_1
      replace p105 := eq_true p105
      replace q105 := eq_true q105
      go_wp2_with (first | (refine bE 5 #[.string (⟨#[]⟩ : ByteArray), .string (⟨#[]⟩ : ByteArray)] 45 ?_; intro gb106 hg w5 hbox hb; have BK106 := ak hbox; have GW106 := gs hg (bl HB.out); have GE106 := gs hg (bl HB.out); replace HB := ak (below_step (bl HB.out) hb); clear hb hbox hg; obtain ⟨hcz6_0, hcz6_1, hfz6_0, hfz6_1⟩ := b2 BK106.out))
      go_roundg k1
      case measure => have := HK1.out; omega
      case rel => exact ⟨(wrap64 (x3_1 + (wrap64 ((((rd_T45 l0 x8_1).f0).size : Int) + (((rd_T45 l0 x8_1).f1).size : Int))))), (wrap64 (x8_1 + 1)), (by first | rfl | (simp; done) | (simp [*]; done)), (by first | rfl | (simp; done) | (simp [*]; done)), H', ⟨by have := HK1.out; omega⟩, ⟨bl1 HB.out GE106.out⟩⟩
     ·rw [if_neg c4] at H
      exact absurd H (by simp)
    ·rw [if_neg c3] at H
     exact absurd H (by simp)
   ·rw [if_neg c2] at H
    have c2b0 : decide (x8_1 < (l0.length : Int)) = false := decide_eq_false c2
    clear c2
    obtain rfl := Option.some.inj H
    go_wp2
    go_ret
    exact ⟨by first | rfl | (simp [errW_none, errW_some] <;> rfl) | (simp [*, errW_none, errW_some] <;> rfl), bl HB.out⟩

/-! ### impl_fits: function 59 -/
def impl_fits.f (k : Nat) (l0 : List (S45)) (a1 : Int) : Option (Bool) := if (l0.length : Int) ≤ 60 then ((impl_weight.f k l0).bind fun t107 => (some (decide (t107 ≤ a1)))) else (some false)
theorem impl_fits.mono : ∀ a0 a1 k, LeO (impl_fits.f k a0 a1) (impl_fits.f (k + 1) a0 a1) := by
 intro a0 a1 k
 unfold impl_fits.f
 repeat' first
   | (with_reducible exact impl_weight.mono _ _)
   | (with_reducible exact LeO.refl _)
   | (with_reducible exact LeO.none _)
   | (with_reducible refine LeO.ite ?_ ?_)
   | (with_reducible refine LeO.bind ?_ (fun _ => ?_))
   | exact impl_weight.mono _ _
   | exact LeO.none _
   | refine LeO.ite ?_ ?_
   | refine LeO.bind ?_ (fun _ => ?_)
set_option maxHeartbeats 8000000 in
set_option maxRecDepth 100000 in
theorem impl_fits.calls (k : Nat) (A0 : Option Addr) (c0 : Nat) (l0 : List (S45)) (a1 : Int) (r : Bool) (w : World) (hr0 : Kd.C k45 w A0 l0.length l0) (hc0 : l0.length ≤ c0) (h : impl_fits.f k l0 a1 = some r) :
  Calls Try.prog 59 #[.slice A0 l0.length c0, .int .i64 a1] w fun e w' => e = .returned (.bool r) ∧ Below w.heap.size w w' := by
 have HR0 := ak hr0
 have HC0 := ak hc0
 clear hr0 hc0
 have HB := ak (Below.refl w.heap.size w)
 have H : (if (l0.length : Int) ≤ 60 then ((impl_weight.f k l0).bind fun t107 => (some (decide (t107 ≤ a1)))) else (some false)) = some r := h
 clear h
 by_cases c3 : (l0.length : Int) ≤ 60
 ·rw [if_pos c3] at H
  have c3b0 : decide ((l0.length : Int) ≤ 60) = true := decide_eq_true c3
  have c3b1 : decide (l0.length ≤ 60) = true := decide_eq_true (by omega)
  clear c3
  replace H := Option.bind_eq_some_iff.mp H
  obtain ⟨t107, A40, H⟩ := H
  try dsimp only at H
  have A4 := ak A40
  clear A40
  obtain rfl := Option.some.inj H
  go_enter Try.func59, Try.ntmps59
  go_wp2_with (first | (go_at_call 65; (with_reducible refine (impl_weight.calls k _ _ l0 t107 _ ?side1 ?side2 A4.out).mono ?_); (case side1 => exact kc HR0.out); (case side2 => exact HC0.out); rintro e w5 ⟨rfl, hb⟩; replace HB := ak (below_step (bl HB.out) hb); clear hb))
  go_ret
  exact ⟨by first | rfl | (simp [errW_none, errW_some] <;> rfl) | (simp [*, errW_none, errW_some] <;> rfl), bl HB.out⟩
 ·rw [if_neg c3] at H
  have c3b0 : decide ((l0.length : Int) ≤ 60) = false := decide_eq_false c3
  have c3b1 : decide (l0.length ≤ 60) = false := decide_eq_false (by omega)
  clear c3
  obtain rfl := Option.some.inj H
  go_enter Try.func59, Try.ntmps59
  go_wp2
  go_ret
  exact ⟨by first | rfl | (simp [errW_none, errW_some] <;> rfl) | (simp [*, errW_none, errW_some] <;> rfl), bl HB.out⟩

-- NOT PRINTED: function 83 (impl_Entry_83)

/-! ### slices.Grow of nil, slices.Concat over rows of entries: functions 83, 60 -/
set_option maxHeartbeats 2000000 in
set_option maxRecDepth 100000 in
theorem slices_GrowE.calls (m : Nat) (w : World) (hm : m < 4398046511104) :
  Calls Try.prog 83 #[.slice none 0 0, .int .i64 m] w fun e w' => ∃ v0_ : Value, e = .returned v0_ ∧ Kd.R k45 45 w' w.heap.size (fun _ => True) v0_ [] ∧ Below w.heap.size w w' := by
 by_cases h0 : m = 0
 ·subst h0
  go_enter Try.func83, Try.ntmps83
  go_wp2
  go_ret
  exact ⟨_, rfl, Kd.R_nil _ _ _ _ _, Below.refl _ _⟩
 ·have hp : (0 : Int) < m := by omega
  have hnn : ¬ ((m : Int) < 0) := by omega
  have LM := ak hm
  have hb1 : decide ((0 : Int) < m) = true := decide_eq_true hp
  have hb2 : decide ((m : Int) < 0) = false := decide_eq_false hnn
  go_enter Try.func83, Try.ntmps83
  go_wp2_with (first
   | ((with_reducible refine gate_builtin (b := .append) (xs := #[.tmp 20, .tmp 21]) rfl ?_); at_builtin; refine Kd.R_append_zeros k45 (w0 := w) w.heap.size rfl (.tmp 20) (.tmp 21) 26 3 45 (.agg #[(.string ⟨#[]⟩), (.string ⟨#[]⟩)]) 32 rfl Try.underlying26 Try.underlying3 info45 rfl (by decide) (by omega) (.slice none 0 0) [] z45 (kx := .i64) (m : Int) (fun _ => True) rfl ?aX ?aZ ?aF ?aO ?a0 ?aB ?aS ?aL ?_; (case aX => first | rfl | (show Value.int .i64 _ = _; congr 1; unfold wrap64; omega)); (case aZ => exact k45_mkM _ _ _ z45); (case aF => exact (fun _ _ => trivial)); (case aO => exact Kd.R_nil _ _ _ _ _); (case a0 => omega); (case aB => exact Below.refl _ _); (case aS => exact Nat.le_refl _); (case aL => have := LM.out; simp only [List.length_nil, Int.toNat_natCast]; omega); intro v2 w2 ho hb hg hat; have HO2 := ak ho; have HB2 := ak hb; clear ho hb hg hat; obtain ⟨g, cap, ev, hg1, hg2, hg3⟩ := Kd.R_form HO2.out (by simp; omega); subst ev; clear hg1 hg2 hg3))
  go_ret
  refine ⟨_, rfl, ?_, HB2.out⟩
  have := Kd.R_take (m := 0) HO2.out (Nat.zero_le _)
  simpa using this
def slices_ConcatE.f (xss : List (List S45)) : Option (List S45) := if xss.flatten.length < 4398046511104 then some xss.flatten else none
def rd_E45 (xs : List (List S45)) (i : Int) : (List S45) := xs.getD i.toNat ([] : List S45)
theorem at_E45 {w : World} {A : Option Addr} {n : Nat} {xs : List (List S45)} (h : Kd.C (Kd.slice 45 k45) w A n xs) (i : Int) (h0 : 0 ≤ i) (h1 : i < n) : ∃ ad A0 c0, A = some ad ∧ w.cell? (ad.add i.toNat) = some (.slice A0 (rd_E45 xs i).length c0) ∧ (rd_E45 xs i).length ≤ c0 ∧ k45.C w A0 (rd_E45 xs i).length (rd_E45 xs i) := by
 obtain ⟨ad, c, e, _, hK, hc0⟩ := Kd.C_get h ([] : List S45) i h0 h1
 have hc : ∀ j u, c[j]? = some u → w.cell? (ad.add (i.toNat * 1 + j)) = some u := hc0
 obtain ⟨A0, c0, rfl, l0, g0⟩ := hK
 exact ⟨ad, A0, c0, e, by have hq := hc 0 _ rfl; rwa [Nat.mul_one, Nat.add_zero] at hq, l0, g0⟩
theorem flat_take (xss : List (List S45)) (j : Nat) (hj : j < xss.length) : (xss.take (j + 1)).flatten = (xss.take j).flatten ++ rd_E45 xss (j : Int) := by
 have e : rd_E45 xss (j : Int) = xss[j] := by
  show xss.getD j _ = _
  rw [List.getD_eq_getElem?_getD, List.getElem?_eq_getElem hj]; rfl
 rw [e, List.take_succ_eq_append_getElem hj, List.flatten_append]; simp
theorem flat_le (xss : List (List S45)) (j : Nat) : (xss.take j).flatten.length ≤ xss.flatten.length := by
 conv => rhs; rw [← List.take_append_drop j xss, List.flatten_append, List.length_append]
 omega
set_option maxHeartbeats 4000000 in
set_option maxRecDepth 100000 in
theorem slices_ConcatE.calls (A0 : Option Addr) (c0 : Nat) (xss : List (List S45)) (r : List S45) (w : World) (hr0 : Kd.C (Kd.slice 45 k45) w A0 xss.length xss) (h : slices_ConcatE.f xss = some r) :
  Calls Try.prog 60 #[.slice A0 xss.length c0] w fun e w' => ∃ v0_ : Value, e = .returned v0_ ∧ Kd.R k45 45 w' w.heap.size (fun _ => True) v0_ r ∧ Below w.heap.size w w' := by
 unfold slices_ConcatE.f at h
 by_cases c : xss.flatten.length < 4398046511104
 ·rw [if_pos c, Option.some.injEq] at h
  subst h
  have LM := ak c
  have hm := Kd.C_max hr0
  have HR := ak hr0
  clear hr0 c
  go_enter Try.func60, Try.ntmps60
  go_wp2
  go_loopg [3, 5, 11] xss.length (fun gg s3 _ s11 wr => ∃ j p : Nat, j ≤ xss.length ∧ xss.length - j ≤ gg ∧ s11 = .int .i64 j ∧ s3 = .int .i64 (p : Int) ∧ Aside0 (p = (xss.take j).flatten.length) ∧ w = wr)
  case atStart => exact ⟨0, 0, Nat.zero_le _, by omega, rfl, rfl, ⟨by simp⟩, rfl⟩
  case round =>
   obtain ⟨j, p, hj, hg, rfl, rfl, HP, rfl⟩ := hrel
   by_cases hlt : j < xss.length
   ·have hlt' : (j : Int) < (xss.length : Int) := by omega
    have h0 : (0 : Int) ≤ (j : Int) := by omega
    obtain ⟨ad, A1, c1, ea, hx, _, _⟩ := at_E45 HR.out (j : Int) h0 hlt'
    cases ea
    simp only [Int.toNat_natCast] at hx
    have ef := flat_take xss j hlt
    have el := flat_le xss (j + 1)
    have hsum : (p : Int) + (((rd_E45 xss (j : Int)).length : Nat) : Int) = ((xss.take (j + 1)).flatten.length : Nat) := by rw [ef, List.length_append, HP.out]; push_cast; rfl
    have hlim : (xss.take (j + 1)).flatten.length < 4398046511104 := Nat.lt_of_le_of_lt el LM.out
    obtain ⟨q, hq⟩ : ∃ q, q = (xss.take (j + 1)).flatten.length := ⟨_, rfl⟩
    rw [← hq] at hsum hlim
    have HQ := ak hq
    clear hq
    generalize rd_E45 xss (j : Int) = y at hx hsum
    have hq0 : decide ((q : Int) < 0) = false := decide_eq_false (by omega)
    have hw3 : wrap64 (q : Int) = (q : Int) := by unfold wrap64; omega
    have hlt2 := decide_eq_true hlt'
    clear ef el hlim
    go_wp2
    go_roundg (xss.length - (j + 1))
    case measure => omega
    case rel => exact ⟨j + 1, q, by omega, by omega, by go_num, (by rw [hw3]), HQ, rfl⟩
   ·have hlt' : ¬ (j : Int) < (xss.length : Int) := by omega
    obtain rfl : j = xss.length := by omega
    have hp : p < 4398046511104 := by rw [HP.out, List.take_length]; exact LM.out
    go_wp2_with (go_at_call 83; refine (slices_GrowE.calls p _ hp).mono ?_; rintro e w1 ⟨v1, rfl, ho, hb⟩; have HO := ak ho; have HB := ak hb; clear ho hb)
    go_loopg [6, 8, 27] xss.length (fun gg s6 _ s27 w' => ∃ j : Nat, j ≤ xss.length ∧ xss.length - j ≤ gg ∧ s27 = .int .i64 j ∧ Aside0 (Kd.R k45 45 w' w.heap.size (fun _ => True) s6 (xss.take j).flatten) ∧ Aside0 (Below w.heap.size w w'))
    case atStart => exact ⟨0, Nat.zero_le _, by omega, rfl, HO, HB⟩
    case round =>
     obtain ⟨j, hj, hg, rfl, HO6, HB6⟩ := hrel
     by_cases hlt : j < xss.length
     ·have hlt' : (j : Int) < (xss.length : Int) := by omega
      have h0 : (0 : Int) ≤ (j : Int) := by omega
      obtain ⟨ad, A1, c1, ea, hx, _, hC⟩ := at_E45 (Kd.C_below HR.out HB6.out) (j : Int) h0 hlt'
      cases ea
      simp only [Int.toNat_natCast] at hx
      have ef := flat_take xss j hlt
      have hlim : (xss.take (j + 1)).flatten.length < 4398046511104 := Nat.lt_of_le_of_lt (flat_le xss (j + 1)) LM.out
      rw [ef, List.length_append] at hlim
      have EF := ak ef
      have HL := ak hlim
      generalize rd_E45 xss (j : Int) = y at hx EF HL hC
      have HC := ak hC
      clear ef hlim hC
      go_wp2_with (first
       | ((with_reducible refine gate_builtin (b := .append) (xs := #[.tmp 31, .tmp 32]) rfl ?_); at_builtin; refine Kd.R_append_rows k45 (w0 := w) w.heap.size rfl (.tmp 31) (.tmp 32) 26 45 (.agg #[(.string ⟨#[]⟩), (.string ⟨#[]⟩)]) 32 rfl Try.underlying26 info45 rfl (by decide) (by omega) u6 (xss.take j).flatten y _ _ _ (fun _ => True) (fun _ => False) rfl rfl ?aO ?aR (fun _ _ h => h) (fun _ h => h.elim) ?aF ?aB ?aS ?aL ?_; (case aR => exact HC.out); (case aB => exact HB6.out); (case aF => exact (fun _ _ => trivial)); (case aO => exact HO6.out); (case aS => exact HB6.out.size); (case aL => have := HL.out; omega); intro v2 w2 ho hb hg hat; have HO2 := ak ho; have HB2 := ak hb; clear ho hb hg hat))
      go_roundg (xss.length - (j + 1))
      case measure => omega
      case rel => exact ⟨j + 1, by omega, by omega, by go_num, ⟨by rw [EF.out]; exact HO2.out⟩, HB2⟩
     ·have hlt' : ¬ (j : Int) < (xss.length : Int) := by omega
      obtain rfl : j = xss.length := by omega
      have HO7 := HO6.out
      rw [List.take_length] at HO7
      have HO8 := ak HO7
      clear HO7
      go_wp2
      go_ret
      exact ⟨_, rfl, HO8.out, HB6.out⟩
 ·rw [if_neg c] at h; exact absurd h (by simp)

/-! ### areAll, function 50, at any predicate -/
set_option maxHeartbeats 800000 in
theorem areAll_g50.neg (h : Nat) (p : S45 → Option Bool) (hp : PredOk Try.prog h (fun x : S45 => Value.agg #[.string x.f0, .string x.f1]) p) (eg : ∀ args w, (callFunc h args).run Try.prog w = .ok (.enter h args) w)
  (x : S45) (r : Bool) (b : Nat) (w : World) (hb : b < w.heap.size) (hc : w.cell? ⟨b, 0, none⟩ = some (.func (.func h) #[] #[])) (hx : p x = some r) :
  Calls Try.prog 75 #[.agg #[.string x.f0, .string x.f1], .pointer (some ⟨b, 0, none⟩)] w fun e w' => e = .returned (.bool (!r)) ∧ Below w.heap.size w w' := by
 have hh := hp x r
 clear hp
 go_enter Try.func75, Try.ntmps75
 go_wp2_with (go_at_fn h; refine (hh _ hx).mono ?_; rintro e w' ⟨rfl, hb'⟩)
 go_ret
 exact ⟨rfl, below_then (below_alloc (Below.refl _ _) _) (by simp) hb'⟩
set_option maxHeartbeats 800000 in
theorem areAll_g50.idx (h : Nat) (p : S45 → Option Bool) (hp : PredOk Try.prog h (fun x : S45 => Value.agg #[.string x.f0, .string x.f1]) p) (eg : ∀ args w, (callFunc h args).run Try.prog w = .ok (.enter h args) w)
  (eg90 : ∀ args w, (callFunc 75 args).run Try.prog w = .ok (.enter 75 args) w)
  (A : Option Addr) (c : Nat) (l : List S45) (r : Int) (b : Nat) (w : World) (hr : Kd.C k45 w A l.length l) (hb : b < w.heap.size) (hcb : w.cell? ⟨b, 0, none⟩ = some (.func (.func h) #[] #[])) (hx : idxO p l 0 = some r) :
  Calls Try.prog 86 #[.slice A l.length c, .func (.func 75) #[] #[.pointer (some ⟨b, 0, none⟩)]] w fun e w' => e = .returned (.int .i64 r) ∧ Below w.heap.size w w' := by
 have hm := Kd.C_max hr
 have HX := ak hx
 have HP := ak hp
 have HR := ak hr
 have HC := ak hcb
 have EG := ak eg
 clear hx hp hr hcb eg
 go_enter Try.func86, Try.ntmps86
 go_wp2
 go_loopg [5, 8] l.length (fun gg _ s8 wr => ∃ j : Nat, j ≤ l.length ∧ l.length - j ≤ gg ∧ s8 = .int .i64 j ∧ Aside0 (Below w.heap.size w wr) ∧ Aside0 (idxO p (l.drop j) j = some r))
 case atStart => exact ⟨0, Nat.zero_le _, by omega, rfl, ⟨Below.refl _ w⟩, ⟨HX.out⟩⟩
 case round =>
  obtain ⟨j, hj, hg, rfl, BW, HA⟩ := hrel
  by_cases hlt : j < l.length
  ·have hlt' : (j : Int) < (l.length : Int) := by omega
   have h0 : (0 : Int) ≤ (j : Int) := by omega
   obtain ⟨bo, hbo, hy, hn⟩ := idxO_step p l z45 j hlt r HA.out
   obtain ⟨ad, ea, hx0, hx1⟩ := at_T45 (Kd.C_below HR.out BW.out) (j : Int) h0 hlt'
   cases ea
   simp only [Int.toNat_natCast] at hx0 hx1
   have hc2 := (BW.out.cell (p := ⟨b, 0, none⟩) hb).trans HC.out
   have hbw : w.heap.size ≤ wr.heap.size := BW.out.size
   rw [show rd_T45 l (j : Int) = l.getD j z45 from rfl] at hx0 hx1
   generalize l.getD j z45 = y at hbo hx0 hx1
   have hcall := areAll_g50.neg h p HP.out EG.out y bo b wr (by omega) hc2 hbo
   have HY := ak hy
   have HN := ak hn
   have HC2 := ak hcall
   clear hy hn hbo hcall hc2
   cases bo with
   | true =>
    go_wp2_with (go_at_fn 75; refine HC2.out.mono ?_; rintro e w' ⟨rfl, hb'⟩)
    go_roundg (l.length - (j + 1))
    case measure => omega
    case rel => exact ⟨j + 1, by omega, by omega, by go_num, ⟨below_then BW.out hbw hb'⟩, ⟨HY.out (by simp)⟩⟩
   | false =>
    go_wp2_with (go_at_fn 75; refine HC2.out.mono ?_; rintro e w' ⟨rfl, hb'⟩)
    go_ret
    exact ⟨congrArg (fun z => Ending.returned (.int .i64 z)) (HN.out (by simp)).symm, below_then BW.out hbw hb'⟩
  ·have hlt' : ¬ (j : Int) < (l.length : Int) := by omega
   have : j = l.length := by omega
   subst this
   have HA2 := HA.out
   rw [List.drop_length] at HA2
   simp only [idxO, Option.some.injEq] at HA2
   have HA3 := ak HA2
   clear HA2
   go_wp2
   go_ret
   exact ⟨congrArg (fun z => Ending.returned (.int .i64 z)) HA3.out, BW.out⟩
set_option maxHeartbeats 800000 in
theorem areAll_g50.has (h : Nat) (p : S45 → Option Bool) (hp : PredOk Try.prog h (fun x : S45 => Value.agg #[.string x.f0, .string x.f1]) p) (eg : ∀ args w, (callFunc h args).run Try.prog w = .ok (.enter h args) w)
  (eg90 : ∀ args w, (callFunc 75 args).run Try.prog w = .ok (.enter 75 args) w)
  (A : Option Addr) (c : Nat) (l : List S45) (r : Bool) (b : Nat) (w : World) (hr : Kd.C k45 w A l.length l) (hb : b < w.heap.size) (hcb : w.cell? ⟨b, 0, none⟩ = some (.func (.func h) #[] #[])) (hx : allO p l = some r) :
  Calls Try.prog 74 #[.slice A l.length c, .func (.func 75) #[] #[.pointer (some ⟨b, 0, none⟩)]] w fun e w' => e = .returned (.bool (!r)) ∧ Below w.heap.size w w' := by
 obtain ⟨i, hi, h1, h2⟩ := allO_idx p l r hx 0
 have hcall := fun W hr hb hcb => areAll_g50.idx h p hp eg eg90 A c l i b W hr hb hcb hi
 have HC := ak hcall
 have HR := ak hr
 have HB := ak hcb
 have EG := ak eg
 clear hcall hr hp hx hi hcb eg
 cases r with
 | true =>
  obtain rfl := h1 rfl
  clear h1 h2
  go_enter Try.func74, Try.ntmps74
  go_wp2_with (go_at_call 86; refine (HC.out _ HR.out hb HB.out).mono ?_; rintro e w' ⟨rfl, hb'⟩)
  go_ret
  exact ⟨rfl, hb'⟩
 | false =>
  have h3 := h2 rfl
  have h4 : decide (0 ≤ i) = true := decide_eq_true h3
  clear h1 h2
  go_enter Try.func74, Try.ntmps74
  go_wp2_with (go_at_call 86; refine (HC.out _ HR.out hb HB.out).mono ?_; rintro e w' ⟨rfl, hb'⟩)
  go_ret
  exact ⟨rfl, hb'⟩
set_option maxHeartbeats 800000 in
theorem areAll_g50.all (h : Nat) (p : S45 → Option Bool) (hp : PredOk Try.prog h (fun x : S45 => Value.agg #[.string x.f0, .string x.f1]) p) (eg : ∀ args w, (callFunc h args).run Try.prog w = .ok (.enter h args) w)
  (A : Option Addr) (c : Nat) (l : List S45) (r : Bool) (w : World) (hr : Kd.C k45 w A l.length l) (hx : allO p l = some r) :
  Calls Try.prog 50 #[.slice A l.length c, .func (.func h) #[] #[]] w fun e w' => e = .returned (.bool r) ∧ Below w.heap.size w w' := by
 have eg90 : ∀ args w, (callFunc 75 args).run Try.prog w = .ok (.enter 75 args) w := enters_of Try.func75 (by kernel_rfl) rfl
 have hcall := fun W b hr hb hcb => areAll_g50.has h p hp eg eg90 A c l r b W hr hb hcb hx
 have HC := ak hcall
 have HR := ak hr
 have EG := ak eg
 clear hcall hr hp hx eg
 go_enter Try.func50, Try.ntmps50
 go_wp2_with (go_at_call 74; refine (HC.out _ _ (Kd.C_alloc HR.out _) (by simp) (by simp)).mono ?_; rintro e w' ⟨rfl, hb'⟩)
 go_ret
 exact ⟨rfl, below_then (below_alloc (Below.refl _ _) _) (by simp) hb'⟩
/-! ### two rows of entries side by side -/
theorem C_two {w : World} {a : Addr} {A1 A2 : Option Addr} {c1 c2 : Nat} {l1 l2 : List S45} (g1 : l1.length ≤ c1) (h1 : k45.C w A1 l1.length l1) (g2 : l2.length ≤ c2) (h2 : k45.C w A2 l2.length l2)
  (hx1 : w.cell? (a.add 0) = some (.slice A1 l1.length c1)) (hx2 : w.cell? (a.add 1) = some (.slice A2 l2.length c2)) : Kd.C (Kd.slice 45 k45) w (some a) 2 [l1, l2] := by
 refine ⟨rfl, by omega, fun _ => ⟨a, rfl, fun j p hj => ?_⟩⟩
 match j, hj with
 | 0, hj =>
  simp only [List.getElem?_cons_zero, Option.some.injEq] at hj
  subst hj
  exact ⟨[.slice A1 l1.length c1], rfl, ⟨A1, c1, rfl, g1, h1⟩, fun i u hu => by
   match i, hu with
   | 0, hu => simp at hu; subst hu; exact hx1⟩
 | 1, hj =>
  simp only [List.getElem?_cons_succ, List.getElem?_cons_zero, Option.some.injEq] at hj
  subst hj
  exact ⟨[.slice A2 l2.length c2], rfl, ⟨A2, c2, rfl, g2, h2⟩, fun i u hu => by
   match i, hu with
   | 0, hu => simp at hu; subst hu; exact hx2⟩

/-! ### GoodSegmented: function 22 -/
theorem plainElem_bool_inv {H : Type} {P : Program} {e : TypeId} (he : P.underlying e = some .bool) {v : Value} {z : DataW H × List MemPlace} (h : plainElem P e v = some z) : ∃ a, v = .bool a ∧ z = (.lit (.bool a), []) := by
 unfold plainElem at h
 rw [he] at h
 cases v <;> simp at h
 subst h
 exact ⟨_, rfl, rfl⟩
theorem wpList_lookup_own_bool {H : Type} {P : Program} (w : World) {ops : Array Oper} {rest : List Oper} {o : Oper} {a : Act} {Q : Exit → Act → World → Prop}
  (hg : o.guard = none) (m x : Operand) (t : TypeId) (hop : o.op = Op.lookup t m x false)
  (k e : TypeId) (K : Maps.Keyed P k) (ht : P.underlying t = some (.map k e)) (he : P.underlying e = some .bool) (hz : (zeroValue e).run P w = .ok (.bool false) w) (b n : Nat) (D : DataW H)
  (hm : a.eval m = .map (some b)) (hown : w.ownsMap P k (plainElem P e) b n D) (key : Value) (kl : Lit) (hx : a.eval x = key) (hkey : keyOf P k key = some kl)
  (hK : ∀ c : Bool, D.atKey kl (.lit (.bool false)) = .lit (.bool c) → wpList P ops Q rest (a.put o.dst (.bool c)) w) :
  wpList P ops Q (o :: rest) a w := by
 refine wpList_plain hg fun K' hK' => ?_
 obtain ⟨v, ps, hrun, hv⟩ := hown.lookup K ht hz (plainElem_bool he false) hkey
 obtain ⟨c, rfl, hc⟩ := plainElem_bool_inv he hv
 simp only [Prod.mk.injEq] at hc
 unfold Oper.wp
 simp [execOp, hop, hm, hx, hrun, Result.andThen]
 exact hK' _ _ (hK c hc.1)
/-- No key twice. -/
def uniqE (seen : List (List UInt8)) : List S45 → Bool
 | [] => true
 | x :: xs => if seen.contains x.f0.data.toList = true then false else uniqE (x.f0.data.toList :: seen) xs
def allE (l : List S45) : Option Bool := allO (fun x => impl_isEntry.f x.f0 x.f1) l
theorem allE.calls (A0 : Option Addr) (c0 : Nat) (l0 : List S45) (r : Bool) (w : World) (hr0 : Kd.C k45 w A0 l0.length l0) (h : allE l0 = some r) :
  Calls Try.prog 50 #[.slice A0 l0.length c0, .func (.func 51) #[] #[]] w fun e w' => e = .returned (.bool r) ∧ Below w.heap.size w w' := by
 refine areAll_g50.all 51 (fun x => impl_isEntry.f x.f0 x.f1) (fun x r w h => ?_) (enters_of Try.func51 (by kernel_rfl) rfl) A0 c0 l0 r w hr0 h
 exact impl_isEntry.calls x.f0 x.f1 r w h
def impl_GoodSegmented.f (k : Nat) (a0_0 : Int) (a0_1 : Int) (l0_2 : List S45) (l0_3 : List S45) : Option Bool := (impl_isRoom.f a0_0).bind fun t1 => (if t1 = true then ((impl_isRoom.f a0_1).bind fun t2 => (if t2 = true then ((impl_fits.f k l0_2 a0_0).bind fun t3 => (if t3 = true then ((impl_fits.f k l0_3 a0_1).bind fun t4 => (if t4 = true then ((allE l0_2).bind fun t5 => (if t5 = true then ((allE l0_3).bind fun t6 => (if t6 = true then ((slices_ConcatE.f [l0_2, l0_3]).bind fun l => (if (l.all fun x => decide (x.f0.size ≤ 9223372036854775807)) = true then some (uniqE [] l) else none)) else some false)) else some false)) else some false)) else some false)) else some false)) else some false)
theorem impl_GoodSegmented.mono : ∀ a0_0 a0_1 l0_2 l0_3 k, LeO (impl_GoodSegmented.f k a0_0 a0_1 l0_2 l0_3) (impl_GoodSegmented.f (k + 1) a0_0 a0_1 l0_2 l0_3) := by
 intro a0_0 a0_1 l0_2 l0_3 k
 unfold impl_GoodSegmented.f
 repeat' first
   | (with_reducible exact impl_fits.mono _ _ _)
   | (with_reducible exact LeO.refl _)
   | (with_reducible exact LeO.none _)
   | (with_reducible refine LeO.ite ?_ ?_)
   | (with_reducible refine LeO.bind ?_ (fun _ => ?_))

set_option maxHeartbeats 16000000 in
set_option maxRecDepth 100000 in
theorem impl_GoodSegmented.calls (k : Nat) (a0_0 : Int) (a0_1 : Int) (A0_2 : Option Addr) (c0_2 : Nat) (l0_2 : List (S45)) (A0_3 : Option Addr) (c0_3 : Nat) (l0_3 : List (S45)) (r : Bool) (w : World) (hr0_2 : Kd.C k45 w A0_2 l0_2.length l0_2) (hc0_2 : l0_2.length ≤ c0_2) (hr0_3 : Kd.C k45 w A0_3 l0_3.length l0_3) (hc0_3 : l0_3.length ≤ c0_3) (h : impl_GoodSegmented.f k a0_0 a0_1 l0_2 l0_3 = some r) :
  Calls Try.prog 22 #[.agg #[.int .i64 a0_0, .int .i64 a0_1, .slice A0_2 l0_2.length c0_2, .slice A0_3 l0_3.length c0_3]] w fun e w' => e = .returned (.bool r) ∧ Below w.heap.size w w' := by
 have HR2 := ak hr0_2
 have HR3 := ak hr0_3
 have HC2 := ak hc0_2
 have HC3 := ak hc0_3
 clear hr0_2 hr0_3 hc0_2 hc0_3
 have hu28 := Try.underlying28
 unfold impl_GoodSegmented.f at h
 obtain ⟨t1, A1, h⟩ := Option.bind_eq_some_iff.mp h
 have A1 := ak A1
 cases t1 with
 | false =>
  simp only [Bool.false_eq_true, if_false, Option.some.injEq] at h
  subst h
  go_enter Try.func22, Try.ntmps22
  go_wp2_with (first
   | (go_at_call 58; (with_reducible refine (impl_isRoom.calls a0_0 false _ A1.out).mono ?_); rintro e w1 ⟨rfl, hb⟩; have HB := ak (below_then (below_alloc (Below.refl _ _) (.cells #[.int .i64 a0_0, .int .i64 a0_1, .slice A0_2 l0_2.length c0_2, .slice A0_3 l0_3.length c0_3] 28)) (by simp) hb.below); have BK := ak (blk_below (blk_new w (.cells #[.int .i64 a0_0, .int .i64 a0_1, .slice A0_2 l0_2.length c0_2, .slice A0_3 l0_3.length c0_3] 28)) hb.below); clear hb; have hz0 : w1.cell? ⟨w.heap.size, 0, none⟩ = some (.int .i64 a0_0) := (blk_cell BK.out 0).trans rfl; have hz1 : w1.cell? ⟨w.heap.size, 1, none⟩ = some (.int .i64 a0_1) := (blk_cell BK.out 1).trans rfl; have hz2 : w1.cell? ⟨w.heap.size, 2, none⟩ = some (.slice A0_2 l0_2.length c0_2) := (blk_cell BK.out 2).trans rfl; have hz3 : w1.cell? ⟨w.heap.size, 3, none⟩ = some (.slice A0_3 l0_3.length c0_3) := (blk_cell BK.out 3).trans rfl))
  go_ret
  exact ⟨rfl, HB.out⟩
 | true =>
  rw [if_pos rfl] at h
  obtain ⟨t2, A2, h⟩ := Option.bind_eq_some_iff.mp h
  have A2 := ak A2
  cases t2 with
  | false =>
   simp only [Bool.false_eq_true, if_false, Option.some.injEq] at h
   subst h
   go_enter Try.func22, Try.ntmps22
   go_wp2_with (first
    | (go_at_call 58; (with_reducible refine (impl_isRoom.calls a0_0 true _ A1.out).mono ?_); rintro e w1 ⟨rfl, hb⟩; have HB := ak (below_then (below_alloc (Below.refl _ _) (.cells #[.int .i64 a0_0, .int .i64 a0_1, .slice A0_2 l0_2.length c0_2, .slice A0_3 l0_3.length c0_3] 28)) (by simp) hb.below); have BK := ak (blk_below (blk_new w (.cells #[.int .i64 a0_0, .int .i64 a0_1, .slice A0_2 l0_2.length c0_2, .slice A0_3 l0_3.length c0_3] 28)) hb.below); clear hb; have hz0 : w1.cell? ⟨w.heap.size, 0, none⟩ = some (.int .i64 a0_0) := (blk_cell BK.out 0).trans rfl; have hz1 : w1.cell? ⟨w.heap.size, 1, none⟩ = some (.int .i64 a0_1) := (blk_cell BK.out 1).trans rfl; have hz2 : w1.cell? ⟨w.heap.size, 2, none⟩ = some (.slice A0_2 l0_2.length c0_2) := (blk_cell BK.out 2).trans rfl; have hz3 : w1.cell? ⟨w.heap.size, 3, none⟩ = some (.slice A0_3 l0_3.length c0_3) := (blk_cell BK.out 3).trans rfl)
    | (go_at_call 58; (with_reducible refine (impl_isRoom.calls a0_1 false _ A2.out).mono ?_); rintro e w2 ⟨rfl, hb⟩; have n0_ := ak (below_then HB.out HB.out.size hb.below); have n1_ := ak (blk_below BK.out hb.below); clear HB BK hz0 hz1 hz2 hz3 hb; have HB := n0_; have BK := n1_; clear n0_ n1_; have hz0 : w2.cell? ⟨w.heap.size, 0, none⟩ = some (.int .i64 a0_0) := (blk_cell BK.out 0).trans rfl; have hz1 : w2.cell? ⟨w.heap.size, 1, none⟩ = some (.int .i64 a0_1) := (blk_cell BK.out 1).trans rfl; have hz2 : w2.cell? ⟨w.heap.size, 2, none⟩ = some (.slice A0_2 l0_2.length c0_2) := (blk_cell BK.out 2).trans rfl; have hz3 : w2.cell? ⟨w.heap.size, 3, none⟩ = some (.slice A0_3 l0_3.length c0_3) := (blk_cell BK.out 3).trans rfl))
   go_ret
   exact ⟨rfl, HB.out⟩
  | true =>
   rw [if_pos rfl] at h
   obtain ⟨t3, A3, h⟩ := Option.bind_eq_some_iff.mp h
   have A3 := ak A3
   cases t3 with
   | false =>
    simp only [Bool.false_eq_true, if_false, Option.some.injEq] at h
    subst h
    go_enter Try.func22, Try.ntmps22
    go_wp2_with (first
     | (go_at_call 58; (with_reducible refine (impl_isRoom.calls a0_0 true _ A1.out).mono ?_); rintro e w1 ⟨rfl, hb⟩; have HB := ak (below_then (below_alloc (Below.refl _ _) (.cells #[.int .i64 a0_0, .int .i64 a0_1, .slice A0_2 l0_2.length c0_2, .slice A0_3 l0_3.length c0_3] 28)) (by simp) hb.below); have BK := ak (blk_below (blk_new w (.cells #[.int .i64 a0_0, .int .i64 a0_1, .slice A0_2 l0_2.length c0_2, .slice A0_3 l0_3.length c0_3] 28)) hb.below); clear hb; have hz0 : w1.cell? ⟨w.heap.size, 0, none⟩ = some (.int .i64 a0_0) := (blk_cell BK.out 0).trans rfl; have hz1 : w1.cell? ⟨w.heap.size, 1, none⟩ = some (.int .i64 a0_1) := (blk_cell BK.out 1).trans rfl; have hz2 : w1.cell? ⟨w.heap.size, 2, none⟩ = some (.slice A0_2 l0_2.length c0_2) := (blk_cell BK.out 2).trans rfl; have hz3 : w1.cell? ⟨w.heap.size, 3, none⟩ = some (.slice A0_3 l0_3.length c0_3) := (blk_cell BK.out 3).trans rfl)
     | (go_at_call 58; (with_reducible refine (impl_isRoom.calls a0_1 true _ A2.out).mono ?_); rintro e w2 ⟨rfl, hb⟩; have n0_ := ak (below_then HB.out HB.out.size hb.below); have n1_ := ak (blk_below BK.out hb.below); clear HB BK hz0 hz1 hz2 hz3 hb; have HB := n0_; have BK := n1_; clear n0_ n1_; have hz0 : w2.cell? ⟨w.heap.size, 0, none⟩ = some (.int .i64 a0_0) := (blk_cell BK.out 0).trans rfl; have hz1 : w2.cell? ⟨w.heap.size, 1, none⟩ = some (.int .i64 a0_1) := (blk_cell BK.out 1).trans rfl; have hz2 : w2.cell? ⟨w.heap.size, 2, none⟩ = some (.slice A0_2 l0_2.length c0_2) := (blk_cell BK.out 2).trans rfl; have hz3 : w2.cell? ⟨w.heap.size, 3, none⟩ = some (.slice A0_3 l0_3.length c0_3) := (blk_cell BK.out 3).trans rfl)
     | (go_at_call 59; (with_reducible refine (impl_fits.calls k A0_2 c0_2 l0_2 a0_0 false _ (Kd.C_below HR2.out HB.out) HC2.out A3.out).mono ?_); rintro e w2 ⟨rfl, hb⟩; have n0_ := ak (below_then HB.out HB.out.size hb); have n1_ := ak (blk_below BK.out hb); clear HB BK hz0 hz1 hz2 hz3 hb; have HB := n0_; have BK := n1_; clear n0_ n1_; have hz0 : w2.cell? ⟨w.heap.size, 0, none⟩ = some (.int .i64 a0_0) := (blk_cell BK.out 0).trans rfl; have hz1 : w2.cell? ⟨w.heap.size, 1, none⟩ = some (.int .i64 a0_1) := (blk_cell BK.out 1).trans rfl; have hz2 : w2.cell? ⟨w.heap.size, 2, none⟩ = some (.slice A0_2 l0_2.length c0_2) := (blk_cell BK.out 2).trans rfl; have hz3 : w2.cell? ⟨w.heap.size, 3, none⟩ = some (.slice A0_3 l0_3.length c0_3) := (blk_cell BK.out 3).trans rfl))
    go_ret
    exact ⟨rfl, HB.out⟩
   | true =>
    rw [if_pos rfl] at h
    obtain ⟨t4, A4, h⟩ := Option.bind_eq_some_iff.mp h
    have A4 := ak A4
    cases t4 with
    | false =>
     simp only [Bool.false_eq_true, if_false, Option.some.injEq] at h
     subst h
     go_enter Try.func22, Try.ntmps22
     go_wp2_with (first
      | (go_at_call 58; (with_reducible refine (impl_isRoom.calls a0_0 true _ A1.out).mono ?_); rintro e w1 ⟨rfl, hb⟩; have HB := ak (below_then (below_alloc (Below.refl _ _) (.cells #[.int .i64 a0_0, .int .i64 a0_1, .slice A0_2 l0_2.length c0_2, .slice A0_3 l0_3.length c0_3] 28)) (by simp) hb.below); have BK := ak (blk_below (blk_new w (.cells #[.int .i64 a0_0, .int .i64 a0_1, .slice A0_2 l0_2.length c0_2, .slice A0_3 l0_3.length c0_3] 28)) hb.below); clear hb; have hz0 : w1.cell? ⟨w.heap.size, 0, none⟩ = some (.int .i64 a0_0) := (blk_cell BK.out 0).trans rfl; have hz1 : w1.cell? ⟨w.heap.size, 1, none⟩ = some (.int .i64 a0_1) := (blk_cell BK.out 1).trans rfl; have hz2 : w1.cell? ⟨w.heap.size, 2, none⟩ = some (.slice A0_2 l0_2.length c0_2) := (blk_cell BK.out 2).trans rfl; have hz3 : w1.cell? ⟨w.heap.size, 3, none⟩ = some (.slice A0_3 l0_3.length c0_3) := (blk_cell BK.out 3).trans rfl)
      | (go_at_call 58; (with_reducible refine (impl_isRoom.calls a0_1 true _ A2.out).mono ?_); rintro e w2 ⟨rfl, hb⟩; have n0_ := ak (below_then HB.out HB.out.size hb.below); have n1_ := ak (blk_below BK.out hb.below); clear HB BK hz0 hz1 hz2 hz3 hb; have HB := n0_; have BK := n1_; clear n0_ n1_; have hz0 : w2.cell? ⟨w.heap.size, 0, none⟩ = some (.int .i64 a0_0) := (blk_cell BK.out 0).trans rfl; have hz1 : w2.cell? ⟨w.heap.size, 1, none⟩ = some (.int .i64 a0_1) := (blk_cell BK.out 1).trans rfl; have hz2 : w2.cell? ⟨w.heap.size, 2, none⟩ = some (.slice A0_2 l0_2.length c0_2) := (blk_cell BK.out 2).trans rfl; have hz3 : w2.cell? ⟨w.heap.size, 3, none⟩ = some (.slice A0_3 l0_3.length c0_3) := (blk_cell BK.out 3).trans rfl)
      | (go_at_call 59; (with_reducible refine (impl_fits.calls k A0_2 c0_2 l0_2 a0_0 true _ (Kd.C_below HR2.out HB.out) HC2.out A3.out).mono ?_); rintro e w2 ⟨rfl, hb⟩; have n0_ := ak (below_then HB.out HB.out.size hb); have n1_ := ak (blk_below BK.out hb); clear HB BK hz0 hz1 hz2 hz3 hb; have HB := n0_; have BK := n1_; clear n0_ n1_; have hz0 : w2.cell? ⟨w.heap.size, 0, none⟩ = some (.int .i64 a0_0) := (blk_cell BK.out 0).trans rfl; have hz1 : w2.cell? ⟨w.heap.size, 1, none⟩ = some (.int .i64 a0_1) := (blk_cell BK.out 1).trans rfl; have hz2 : w2.cell? ⟨w.heap.size, 2, none⟩ = some (.slice A0_2 l0_2.length c0_2) := (blk_cell BK.out 2).trans rfl; have hz3 : w2.cell? ⟨w.heap.size, 3, none⟩ = some (.slice A0_3 l0_3.length c0_3) := (blk_cell BK.out 3).trans rfl)
      | (go_at_call 59; (with_reducible refine (impl_fits.calls k A0_3 c0_3 l0_3 a0_1 false _ (Kd.C_below HR3.out HB.out) HC3.out A4.out).mono ?_); rintro e w2 ⟨rfl, hb⟩; have n0_ := ak (below_then HB.out HB.out.size hb); have n1_ := ak (blk_below BK.out hb); clear HB BK hz0 hz1 hz2 hz3 hb; have HB := n0_; have BK := n1_; clear n0_ n1_; have hz0 : w2.cell? ⟨w.heap.size, 0, none⟩ = some (.int .i64 a0_0) := (blk_cell BK.out 0).trans rfl; have hz1 : w2.cell? ⟨w.heap.size, 1, none⟩ = some (.int .i64 a0_1) := (blk_cell BK.out 1).trans rfl; have hz2 : w2.cell? ⟨w.heap.size, 2, none⟩ = some (.slice A0_2 l0_2.length c0_2) := (blk_cell BK.out 2).trans rfl; have hz3 : w2.cell? ⟨w.heap.size, 3, none⟩ = some (.slice A0_3 l0_3.length c0_3) := (blk_cell BK.out 3).trans rfl))
     go_ret
     exact ⟨rfl, HB.out⟩
    | true =>
     rw [if_pos rfl] at h
     obtain ⟨t5, A5, h⟩ := Option.bind_eq_some_iff.mp h
     have A5 := ak A5
     cases t5 with
     | false =>
      simp only [Bool.false_eq_true, if_false, Option.some.injEq] at h
      subst h
      go_enter Try.func22, Try.ntmps22
      go_wp2_with (first
       | (go_at_call 58; (with_reducible refine (impl_isRoom.calls a0_0 true _ A1.out).mono ?_); rintro e w1 ⟨rfl, hb⟩; have HB := ak (below_then (below_alloc (Below.refl _ _) (.cells #[.int .i64 a0_0, .int .i64 a0_1, .slice A0_2 l0_2.length c0_2, .slice A0_3 l0_3.length c0_3] 28)) (by simp) hb.below); have BK := ak (blk_below (blk_new w (.cells #[.int .i64 a0_0, .int .i64 a0_1, .slice A0_2 l0_2.length c0_2, .slice A0_3 l0_3.length c0_3] 28)) hb.below); clear hb; have hz0 : w1.cell? ⟨w.heap.size, 0, none⟩ = some (.int .i64 a0_0) := (blk_cell BK.out 0).trans rfl; have hz1 : w1.cell? ⟨w.heap.size, 1, none⟩ = some (.int .i64 a0_1) := (blk_cell BK.out 1).trans rfl; have hz2 : w1.cell? ⟨w.heap.size, 2, none⟩ = some (.slice A0_2 l0_2.length c0_2) := (blk_cell BK.out 2).trans rfl; have hz3 : w1.cell? ⟨w.heap.size, 3, none⟩ = some (.slice A0_3 l0_3.length c0_3) := (blk_cell BK.out 3).trans rfl)
       | (go_at_call 58; (with_reducible refine (impl_isRoom.calls a0_1 true _ A2.out).mono ?_); rintro e w2 ⟨rfl, hb⟩; have n0_ := ak (below_then HB.out HB.out.size hb.below); have n1_ := ak (blk_below BK.out hb.below); clear HB BK hz0 hz1 hz2 hz3 hb; have HB := n0_; have BK := n1_; clear n0_ n1_; have hz0 : w2.cell? ⟨w.heap.size, 0, none⟩ = some (.int .i64 a0_0) := (blk_cell BK.out 0).trans rfl; have hz1 : w2.cell? ⟨w.heap.size, 1, none⟩ = some (.int .i64 a0_1) := (blk_cell BK.out 1).trans rfl; have hz2 : w2.cell? ⟨w.heap.size, 2, none⟩ = some (.slice A0_2 l0_2.length c0_2) := (blk_cell BK.out 2).trans rfl; have hz3 : w2.cell? ⟨w.heap.size, 3, none⟩ = some (.slice A0_3 l0_3.length c0_3) := (blk_cell BK.out 3).trans rfl)
       | (go_at_call 59; (with_reducible refine (impl_fits.calls k A0_2 c0_2 l0_2 a0_0 true _ (Kd.C_below HR2.out HB.out) HC2.out A3.out).mono ?_); rintro e w2 ⟨rfl, hb⟩; have n0_ := ak (below_then HB.out HB.out.size hb); have n1_ := ak (blk_below BK.out hb); clear HB BK hz0 hz1 hz2 hz3 hb; have HB := n0_; have BK := n1_; clear n0_ n1_; have hz0 : w2.cell? ⟨w.heap.size, 0, none⟩ = some (.int .i64 a0_0) := (blk_cell BK.out 0).trans rfl; have hz1 : w2.cell? ⟨w.heap.size, 1, none⟩ = some (.int .i64 a0_1) := (blk_cell BK.out 1).trans rfl; have hz2 : w2.cell? ⟨w.heap.size, 2, none⟩ = some (.slice A0_2 l0_2.length c0_2) := (blk_cell BK.out 2).trans rfl; have hz3 : w2.cell? ⟨w.heap.size, 3, none⟩ = some (.slice A0_3 l0_3.length c0_3) := (blk_cell BK.out 3).trans rfl)
       | (go_at_call 59; (with_reducible refine (impl_fits.calls k A0_3 c0_3 l0_3 a0_1 true _ (Kd.C_below HR3.out HB.out) HC3.out A4.out).mono ?_); rintro e w2 ⟨rfl, hb⟩; have n0_ := ak (below_then HB.out HB.out.size hb); have n1_ := ak (blk_below BK.out hb); clear HB BK hz0 hz1 hz2 hz3 hb; have HB := n0_; have BK := n1_; clear n0_ n1_; have hz0 : w2.cell? ⟨w.heap.size, 0, none⟩ = some (.int .i64 a0_0) := (blk_cell BK.out 0).trans rfl; have hz1 : w2.cell? ⟨w.heap.size, 1, none⟩ = some (.int .i64 a0_1) := (blk_cell BK.out 1).trans rfl; have hz2 : w2.cell? ⟨w.heap.size, 2, none⟩ = some (.slice A0_2 l0_2.length c0_2) := (blk_cell BK.out 2).trans rfl; have hz3 : w2.cell? ⟨w.heap.size, 3, none⟩ = some (.slice A0_3 l0_3.length c0_3) := (blk_cell BK.out 3).trans rfl)
       | (go_at_call 50; (with_reducible refine (allE.calls A0_2 c0_2 l0_2 false _ (Kd.C_below HR2.out HB.out) A5.out).mono ?_); rintro e w2 ⟨rfl, hb⟩; have n0_ := ak (below_then HB.out HB.out.size hb); have n1_ := ak (blk_below BK.out hb); clear HB BK hz0 hz1 hz2 hz3 hb; have HB := n0_; have BK := n1_; clear n0_ n1_; have hz0 : w2.cell? ⟨w.heap.size, 0, none⟩ = some (.int .i64 a0_0) := (blk_cell BK.out 0).trans rfl; have hz1 : w2.cell? ⟨w.heap.size, 1, none⟩ = some (.int .i64 a0_1) := (blk_cell BK.out 1).trans rfl; have hz2 : w2.cell? ⟨w.heap.size, 2, none⟩ = some (.slice A0_2 l0_2.length c0_2) := (blk_cell BK.out 2).trans rfl; have hz3 : w2.cell? ⟨w.heap.size, 3, none⟩ = some (.slice A0_3 l0_3.length c0_3) := (blk_cell BK.out 3).trans rfl))
      go_ret
      exact ⟨rfl, HB.out⟩
     | true =>
      rw [if_pos rfl] at h
      obtain ⟨t6, A6, h⟩ := Option.bind_eq_some_iff.mp h
      have A6 := ak A6
      cases t6 with
      | false =>
       simp only [Bool.false_eq_true, if_false, Option.some.injEq] at h
       subst h
       go_enter Try.func22, Try.ntmps22
       go_wp2_with (first
        | (go_at_call 58; (with_reducible refine (impl_isRoom.calls a0_0 true _ A1.out).mono ?_); rintro e w1 ⟨rfl, hb⟩; have HB := ak (below_then (below_alloc (Below.refl _ _) (.cells #[.int .i64 a0_0, .int .i64 a0_1, .slice A0_2 l0_2.length c0_2, .slice A0_3 l0_3.length c0_3] 28)) (by simp) hb.below); have BK := ak (blk_below (blk_new w (.cells #[.int .i64 a0_0, .int .i64 a0_1, .slice A0_2 l0_2.length c0_2, .slice A0_3 l0_3.length c0_3] 28)) hb.below); clear hb; have hz0 : w1.cell? ⟨w.heap.size, 0, none⟩ = some (.int .i64 a0_0) := (blk_cell BK.out 0).trans rfl; have hz1 : w1.cell? ⟨w.heap.size, 1, none⟩ = some (.int .i64 a0_1) := (blk_cell BK.out 1).trans rfl; have hz2 : w1.cell? ⟨w.heap.size, 2, none⟩ = some (.slice A0_2 l0_2.length c0_2) := (blk_cell BK.out 2).trans rfl; have hz3 : w1.cell? ⟨w.heap.size, 3, none⟩ = some (.slice A0_3 l0_3.length c0_3) := (blk_cell BK.out 3).trans rfl)
        | (go_at_call 58; (with_reducible refine (impl_isRoom.calls a0_1 true _ A2.out).mono ?_); rintro e w2 ⟨rfl, hb⟩; have n0_ := ak (below_then HB.out HB.out.size hb.below); have n1_ := ak (blk_below BK.out hb.below); clear HB BK hz0 hz1 hz2 hz3 hb; have HB := n0_; have BK := n1_; clear n0_ n1_; have hz0 : w2.cell? ⟨w.heap.size, 0, none⟩ = some (.int .i64 a0_0) := (blk_cell BK.out 0).trans rfl; have hz1 : w2.cell? ⟨w.heap.size, 1, none⟩ = some (.int .i64 a0_1) := (blk_cell BK.out 1).trans rfl; have hz2 : w2.cell? ⟨w.heap.size, 2, none⟩ = some (.slice A0_2 l0_2.length c0_2) := (blk_cell BK.out 2).trans rfl; have hz3 : w2.cell? ⟨w.heap.size, 3, none⟩ = some (.slice A0_3 l0_3.length c0_3) := (blk_cell BK.out 3).trans rfl)
        | (go_at_call 59; (with_reducible refine (impl_fits.calls k A0_2 c0_2 l0_2 a0_0 true _ (Kd.C_below HR2.out HB.out) HC2.out A3.out).mono ?_); rintro e w2 ⟨rfl, hb⟩; have n0_ := ak (below_then HB.out HB.out.size hb); have n1_ := ak (blk_below BK.out hb); clear HB BK hz0 hz1 hz2 hz3 hb; have HB := n0_; have BK := n1_; clear n0_ n1_; have hz0 : w2.cell? ⟨w.heap.size, 0, none⟩ = some (.int .i64 a0_0) := (blk_cell BK.out 0).trans rfl; have hz1 : w2.cell? ⟨w.heap.size, 1, none⟩ = some (.int .i64 a0_1) := (blk_cell BK.out 1).trans rfl; have hz2 : w2.cell? ⟨w.heap.size, 2, none⟩ = some (.slice A0_2 l0_2.length c0_2) := (blk_cell BK.out 2).trans rfl; have hz3 : w2.cell? ⟨w.heap.size, 3, none⟩ = some (.slice A0_3 l0_3.length c0_3) := (blk_cell BK.out 3).trans rfl)
        | (go_at_call 59; (with_reducible refine (impl_fits.calls k A0_3 c0_3 l0_3 a0_1 true _ (Kd.C_below HR3.out HB.out) HC3.out A4.out).mono ?_); rintro e w2 ⟨rfl, hb⟩; have n0_ := ak (below_then HB.out HB.out.size hb); have n1_ := ak (blk_below BK.out hb); clear HB BK hz0 hz1 hz2 hz3 hb; have HB := n0_; have BK := n1_; clear n0_ n1_; have hz0 : w2.cell? ⟨w.heap.size, 0, none⟩ = some (.int .i64 a0_0) := (blk_cell BK.out 0).trans rfl; have hz1 : w2.cell? ⟨w.heap.size, 1, none⟩ = some (.int .i64 a0_1) := (blk_cell BK.out 1).trans rfl; have hz2 : w2.cell? ⟨w.heap.size, 2, none⟩ = some (.slice A0_2 l0_2.length c0_2) := (blk_cell BK.out 2).trans rfl; have hz3 : w2.cell? ⟨w.heap.size, 3, none⟩ = some (.slice A0_3 l0_3.length c0_3) := (blk_cell BK.out 3).trans rfl)
        | (go_at_call 50; (with_reducible refine (allE.calls A0_2 c0_2 l0_2 true _ (Kd.C_below HR2.out HB.out) A5.out).mono ?_); rintro e w2 ⟨rfl, hb⟩; have n0_ := ak (below_then HB.out HB.out.size hb); have n1_ := ak (blk_below BK.out hb); clear HB BK hz0 hz1 hz2 hz3 hb; have HB := n0_; have BK := n1_; clear n0_ n1_; have hz0 : w2.cell? ⟨w.heap.size, 0, none⟩ = some (.int .i64 a0_0) := (blk_cell BK.out 0).trans rfl; have hz1 : w2.cell? ⟨w.heap.size, 1, none⟩ = some (.int .i64 a0_1) := (blk_cell BK.out 1).trans rfl; have hz2 : w2.cell? ⟨w.heap.size, 2, none⟩ = some (.slice A0_2 l0_2.length c0_2) := (blk_cell BK.out 2).trans rfl; have hz3 : w2.cell? ⟨w.heap.size, 3, none⟩ = some (.slice A0_3 l0_3.length c0_3) := (blk_cell BK.out 3).trans rfl)
        | (go_at_call 50; (with_reducible refine (allE.calls A0_3 c0_3 l0_3 false _ (Kd.C_below HR3.out HB.out) A6.out).mono ?_); rintro e w2 ⟨rfl, hb⟩; have n0_ := ak (below_then HB.out HB.out.size hb); have n1_ := ak (blk_below BK.out hb); clear HB BK hz0 hz1 hz2 hz3 hb; have HB := n0_; have BK := n1_; clear n0_ n1_; have hz0 : w2.cell? ⟨w.heap.size, 0, none⟩ = some (.int .i64 a0_0) := (blk_cell BK.out 0).trans rfl; have hz1 : w2.cell? ⟨w.heap.size, 1, none⟩ = some (.int .i64 a0_1) := (blk_cell BK.out 1).trans rfl; have hz2 : w2.cell? ⟨w.heap.size, 2, none⟩ = some (.slice A0_2 l0_2.length c0_2) := (blk_cell BK.out 2).trans rfl; have hz3 : w2.cell? ⟨w.heap.size, 3, none⟩ = some (.slice A0_3 l0_3.length c0_3) := (blk_cell BK.out 3).trans rfl))
       go_ret
       exact ⟨rfl, HB.out⟩
      | true =>
       rw [if_pos rfl] at h
       obtain ⟨l, A7, h⟩ := Option.bind_eq_some_iff.mp h
       have A7 := ak A7
       by_cases c7 : (l.all fun x => decide (x.f0.size ≤ 9223372036854775807)) = true
       ·rw [if_pos c7, Option.some.injEq] at h
        have H7 := ak c7
        have H8 := ak h
        clear c7 h
        have hmm := @run_makeMap Try.prog
        have law9 : Maps.Keyed Try.prog 9 := Maps.string_keyed Try.underlying9
        have zero4 : ∀ w, (zeroValue 4).run Try.prog w = .ok (.bool false) w := fun w => by kernel_rfl
        go_enter Try.func22, Try.ntmps22
        go_wp2_with (first
         | (go_at_call 58; (with_reducible refine (impl_isRoom.calls a0_0 true _ A1.out).mono ?_); rintro e w1 ⟨rfl, hb⟩; have HB := ak (below_then (below_alloc (Below.refl _ _) (.cells #[.int .i64 a0_0, .int .i64 a0_1, .slice A0_2 l0_2.length c0_2, .slice A0_3 l0_3.length c0_3] 28)) (by simp) hb.below); have BK := ak (blk_below (blk_new w (.cells #[.int .i64 a0_0, .int .i64 a0_1, .slice A0_2 l0_2.length c0_2, .slice A0_3 l0_3.length c0_3] 28)) hb.below); clear hb; have hz0 : w1.cell? ⟨w.heap.size, 0, none⟩ = some (.int .i64 a0_0) := (blk_cell BK.out 0).trans rfl; have hz1 : w1.cell? ⟨w.heap.size, 1, none⟩ = some (.int .i64 a0_1) := (blk_cell BK.out 1).trans rfl; have hz2 : w1.cell? ⟨w.heap.size, 2, none⟩ = some (.slice A0_2 l0_2.length c0_2) := (blk_cell BK.out 2).trans rfl; have hz3 : w1.cell? ⟨w.heap.size, 3, none⟩ = some (.slice A0_3 l0_3.length c0_3) := (blk_cell BK.out 3).trans rfl)
         | (go_at_call 58; (with_reducible refine (impl_isRoom.calls a0_1 true _ A2.out).mono ?_); rintro e w2 ⟨rfl, hb⟩; have n0_ := ak (below_then HB.out HB.out.size hb.below); have n1_ := ak (blk_below BK.out hb.below); clear HB BK hz0 hz1 hz2 hz3 hb; have HB := n0_; have BK := n1_; clear n0_ n1_; have hz0 : w2.cell? ⟨w.heap.size, 0, none⟩ = some (.int .i64 a0_0) := (blk_cell BK.out 0).trans rfl; have hz1 : w2.cell? ⟨w.heap.size, 1, none⟩ = some (.int .i64 a0_1) := (blk_cell BK.out 1).trans rfl; have hz2 : w2.cell? ⟨w.heap.size, 2, none⟩ = some (.slice A0_2 l0_2.length c0_2) := (blk_cell BK.out 2).trans rfl; have hz3 : w2.cell? ⟨w.heap.size, 3, none⟩ = some (.slice A0_3 l0_3.length c0_3) := (blk_cell BK.out 3).trans rfl)
         | (go_at_call 59; (with_reducible refine (impl_fits.calls k A0_2 c0_2 l0_2 a0_0 true _ (Kd.C_below HR2.out HB.out) HC2.out A3.out).mono ?_); rintro e w2 ⟨rfl, hb⟩; have n0_ := ak (below_then HB.out HB.out.size hb); have n1_ := ak (blk_below BK.out hb); clear HB BK hz0 hz1 hz2 hz3 hb; have HB := n0_; have BK := n1_; clear n0_ n1_; have hz0 : w2.cell? ⟨w.heap.size, 0, none⟩ = some (.int .i64 a0_0) := (blk_cell BK.out 0).trans rfl; have hz1 : w2.cell? ⟨w.heap.size, 1, none⟩ = some (.int .i64 a0_1) := (blk_cell BK.out 1).trans rfl; have hz2 : w2.cell? ⟨w.heap.size, 2, none⟩ = some (.slice A0_2 l0_2.length c0_2) := (blk_cell BK.out 2).trans rfl; have hz3 : w2.cell? ⟨w.heap.size, 3, none⟩ = some (.slice A0_3 l0_3.length c0_3) := (blk_cell BK.out 3).trans rfl)
         | (go_at_call 59; (with_reducible refine (impl_fits.calls k A0_3 c0_3 l0_3 a0_1 true _ (Kd.C_below HR3.out HB.out) HC3.out A4.out).mono ?_); rintro e w2 ⟨rfl, hb⟩; have n0_ := ak (below_then HB.out HB.out.size hb); have n1_ := ak (blk_below BK.out hb); clear HB BK hz0 hz1 hz2 hz3 hb; have HB := n0_; have BK := n1_; clear n0_ n1_; have hz0 : w2.cell? ⟨w.heap.size, 0, none⟩ = some (.int .i64 a0_0) := (blk_cell BK.out 0).trans rfl; have hz1 : w2.cell? ⟨w.heap.size, 1, none⟩ = some (.int .i64 a0_1) := (blk_cell BK.out 1).trans rfl; have hz2 : w2.cell? ⟨w.heap.size, 2, none⟩ = some (.slice A0_2 l0_2.length c0_2) := (blk_cell BK.out 2).trans rfl; have hz3 : w2.cell? ⟨w.heap.size, 3, none⟩ = some (.slice A0_3 l0_3.length c0_3) := (blk_cell BK.out 3).trans rfl)
         | (go_at_call 50; (with_reducible refine (allE.calls A0_2 c0_2 l0_2 true _ (Kd.C_below HR2.out HB.out) A5.out).mono ?_); rintro e w2 ⟨rfl, hb⟩; have n0_ := ak (below_then HB.out HB.out.size hb); have n1_ := ak (blk_below BK.out hb); clear HB BK hz0 hz1 hz2 hz3 hb; have HB := n0_; have BK := n1_; clear n0_ n1_; have hz0 : w2.cell? ⟨w.heap.size, 0, none⟩ = some (.int .i64 a0_0) := (blk_cell BK.out 0).trans rfl; have hz1 : w2.cell? ⟨w.heap.size, 1, none⟩ = some (.int .i64 a0_1) := (blk_cell BK.out 1).trans rfl; have hz2 : w2.cell? ⟨w.heap.size, 2, none⟩ = some (.slice A0_2 l0_2.length c0_2) := (blk_cell BK.out 2).trans rfl; have hz3 : w2.cell? ⟨w.heap.size, 3, none⟩ = some (.slice A0_3 l0_3.length c0_3) := (blk_cell BK.out 3).trans rfl)
         | (go_at_call 50; (with_reducible refine (allE.calls A0_3 c0_3 l0_3 true _ (Kd.C_below HR3.out HB.out) A6.out).mono ?_); rintro e w2 ⟨rfl, hb⟩; have n0_ := ak (below_then HB.out HB.out.size hb); have n1_ := ak (blk_below BK.out hb); clear HB BK hz0 hz1 hz2 hz3 hb; have HB := n0_; have BK := n1_; clear n0_ n1_; have hz0 : w2.cell? ⟨w.heap.size, 0, none⟩ = some (.int .i64 a0_0) := (blk_cell BK.out 0).trans rfl; have hz1 : w2.cell? ⟨w.heap.size, 1, none⟩ = some (.int .i64 a0_1) := (blk_cell BK.out 1).trans rfl; have hz2 : w2.cell? ⟨w.heap.size, 2, none⟩ = some (.slice A0_2 l0_2.length c0_2) := (blk_cell BK.out 2).trans rfl; have hz3 : w2.cell? ⟨w.heap.size, 3, none⟩ = some (.slice A0_3 l0_3.length c0_3) := (blk_cell BK.out 3).trans rfl)
         | ((with_reducible refine gate_dst (N := 44) rfl ?_); refine Kd.event_run (w1 := w2.alloc (.map #[] 0)) (v := .map (some w2.heap.size)) rfl ?hr ?_; (case hr => go_simp; done); have HM := ak (World.ownsMap_made (H := Unit) w2 Try.prog 9 (plainElem Try.prog 4)); have n0_ := ak (below_alloc HB.out (.map #[] 0)); have n1_ := ak (blk_alloc BK.out (.map #[] 0)); have GB := ak HB.out.size; clear HB BK hz0 hz1 hz2 hz3; have HB := n0_; have BK := n1_; clear n0_ n1_; generalize w2.alloc (.map #[] 0) = w3 at HM HB BK ⊢; generalize w2.heap.size = B at HM GB ⊢; have hz0 : w3.cell? ⟨w.heap.size, 0, none⟩ = some (.int .i64 a0_0) := (blk_cell BK.out 0).trans rfl; have hz1 : w3.cell? ⟨w.heap.size, 1, none⟩ = some (.int .i64 a0_1) := (blk_cell BK.out 1).trans rfl; have hz2 : w3.cell? ⟨w.heap.size, 2, none⟩ = some (.slice A0_2 l0_2.length c0_2) := (blk_cell BK.out 2).trans rfl; have hz3 : w3.cell? ⟨w.heap.size, 3, none⟩ = some (.slice A0_3 l0_3.length c0_3) := (blk_cell BK.out 3).trans rfl)
         | (go_at_call 60; refine (slices_ConcatE.calls (some ⟨w3.heap.size, 0, none⟩) 2 [l0_2, l0_3] l _ ?hC A7.out).mono ?_; (case hC => exact C_two HC2.out (Kd.C_alloc (Kd.C_below HR2.out HB.out) _) HC3.out (Kd.C_alloc (Kd.C_below HR3.out HB.out) _) (by rw [add_plain]; exact (blk_cell (blk_new w3 _) 0).trans rfl) (by rw [add_plain]; exact (blk_cell (blk_new w3 _) 1).trans rfl)); rintro e w4 ⟨v4, rfl, ho, hb⟩; have HBL := ak HM.out.lt; have HM4 := ak ((HM.out.alloc _).kept (grown_of_below hb none) (by simp)); have hsz4 : w.heap.size ≤ (w3.alloc (Obj.cells #[Value.slice A0_2 l0_2.length c0_2, Value.slice A0_3 l0_3.length c0_3] 26)).heap.size := (by have := HB.out.size; simp only [World.size_alloc]; omega); have HR4 := ak (Kd.R_lower (Kd.R_mono (Kd.R_bound ho) (ok' := fun k => k ≠ B) (fun k hk => by have h1 := hk.2.1; have h2 := HBL.out; simp only [World.size_alloc] at h1; omega)) hsz4); have HB4 := ak (below_then (below_alloc HB.out _) hsz4 hb); clear ho hb hsz4 hz0 hz1 hz2 hz3; obtain ⟨Al, cl, ev⟩ := Kd.R_slice HR4.out; subst ev))
        go_loopg [5, 52] l.length (fun gg _ s52 wr => ∃ (j : Nat) (D : DataW Unit) (seen : List (List UInt8)), j ≤ l.length ∧ l.length - j ≤ gg ∧ s52 = .int .i64 j ∧ Aside0 (wr.ownsMap Try.prog 9 (plainElem Try.prog 4) B j D) ∧ Aside0 (∀ s : ByteArray, D.atKey (.string s.data.toList) (.lit (.bool false)) = .lit (.bool (seen.contains s.data.toList))) ∧ Aside0 (Kd.R k45 45 wr w.heap.size (fun k => k ≠ B) (.slice Al l.length cl) l) ∧ Aside0 (Below w.heap.size w wr) ∧ Aside0 (uniqE seen (l.drop j) = r))
        case atStart => exact ⟨0, .map [], [], Nat.zero_le _, by omega, rfl, HM4, ⟨fun s => rfl⟩, HR4, HB4, H8⟩
        case round =>
         obtain ⟨j, D, seen, hj, hg, rfl, HMr, HD, HRr, HBr, HU⟩ := hrel
         have hmax := Kd.C_max (Kd.R_reads' HRr.out).2.2
         by_cases hlt : j < l.length
         ·have hlt' : (j : Int) < (l.length : Int) := by omega
          have h0 : (0 : Int) ≤ (j : Int) := by omega
          have hu := HU.out
          rw [List.drop_eq_getElem_cons hlt] at hu
          simp only [uniqE] at hu
          obtain ⟨ad, ea, hx0, hx1⟩ := at_T45 (Kd.R_reads' HRr.out).2.2 (j : Int) h0 hlt'
          cases ea
          have e : rd_T45 l (j : Int) = l[j] := by
           show l.getD j _ = _
           rw [List.getD_eq_getElem?_getD, List.getElem?_eq_getElem hlt]; rfl
          rw [e] at hx0 hx1
          simp only [Int.toNat_natCast] at hx0 hx1
          have hsz : l[j].f0.size ≤ 9223372036854775807 := of_decide_eq_true (List.all_eq_true.1 H7.out _ (List.getElem_mem hlt))
          generalize l[j] = y at hu hx0 hx1 hsz
          have hkey : keyOf Try.prog 9 (.string y.f0) = some (.string y.f0.data.toList) := Go.WideMaps.keyOf_string_mk Try.underlying9 hsz
          have HU2 := ak hu
          have hmx := ak hmax
          clear hu hsz
          cases hc : seen.contains y.f0.data.toList with
          | true =>
           rw [hc, if_pos rfl] at HU2
           go_wp2_with (first
            | (at_lookup; refine wpList_lookup_own_bool _ rfl _ _ 90 rfl 9 4 law9 Try.underlying90 Try.underlying4 (zero4 _) B j D rfl (HMr.out.alloc _) _ _ rfl hkey ?_; intro c hat; rw [HD.out, hc] at hat; obtain rfl : true = c := (by simpa using hat); clear hat))
           go_ret
           exact ⟨congrArg (fun z => Ending.returned (.bool z)) HU2.out, below_alloc HBr.out _⟩
          | false =>
           rw [hc, if_neg (by simp)] at HU2
           go_wp2_with (first
            | (at_lookup; refine wpList_lookup_own_bool _ rfl _ _ 90 rfl 9 4 law9 Try.underlying90 Try.underlying4 (zero4 _) B j D rfl (HMr.out.alloc _) _ _ rfl hkey ?_; intro c hat; rw [HD.out, hc] at hat; obtain rfl : false = c := (by simpa using hat); clear hat)
            | (at_mapUpdate; refine wpList_mapUpdate_own _ rfl _ _ _ 90 rfl 9 4 law9 Try.underlying90 _ B j D rfl (HMr.out.alloc _) (by unfold maxLen; have := hmx.out; omega) _ _ _ rfl rfl hkey _ [] (plainElem_bool Try.underlying4 true) ?_; intro w5 hown5 hgrow5; have HM5 := ak hown5; have HG5 := ak hgrow5; clear hown5 hgrow5))
           go_roundg (l.length - (j + 1))
           case measure => omega
           case rel =>
            refine ⟨j + 1, _, y.f0.data.toList :: seen, by omega, by omega, by go_num, HM5, ⟨fun s => ?_⟩, ⟨Kd.R_grown (Kd.R_alloc HRr.out _) HG5.out (fun k hk => by simpa using hk)⟩, ⟨(below_alloc HBr.out _).grown HG5.out (below_size (below_alloc HBr.out _)) (fun k hk => by cases hk; exact GB.out)⟩, HU2⟩
            by_cases hs : s.data.toList = y.f0.data.toList
            ·rw [hs, Maps.atKey_put_same (k := .string y.f0.data.toList) (HMr.out.tidy law9).isMap trivial]
             simp
            ·rw [Maps.atKey_put_other (by intro hh; injection hh with hh; exact hs hh), HD.out]
             congr 2
             simp [hs]
         ·have hlt' : ¬ (j : Int) < (l.length : Int) := by omega
          obtain rfl : j = l.length := by omega
          have HU2 := HU.out
          rw [List.drop_length] at HU2
          simp only [uniqE] at HU2
          have HU3 := ak HU2
          clear HU2
          go_wp2
          go_ret
          exact ⟨congrArg (fun z => Ending.returned (.bool z)) HU3.out, HBr.out⟩
       ·rw [if_neg c7] at h; exact absurd h (by simp)

/-! ### slices.Clone over entries: function 69 -/
def slices_CloneE.f (l0 : List S45) : Option (List S45) := if l0.length < 4398046511104 then some l0 else none
set_option maxHeartbeats 2000000 in
set_option maxRecDepth 100000 in
theorem slices_CloneE.calls (A0 : Option Addr) (c0 : Nat) (l0 : List S45) (r : List S45) (w : World) (hr0 : Kd.C k45 w A0 l0.length l0) (hc0 : l0.length ≤ c0) (h : slices_CloneE.f l0 = some r) :
  Calls Try.prog 69 #[.slice A0 l0.length c0] w fun e w' => ∃ v0_ : Value, e = .returned (v0_) ∧ Kd.R k45 45 w' w.heap.size (fun _ => True) v0_ r ∧ Below w.heap.size w w' := by
 unfold slices_CloneE.f at h
 by_cases c : l0.length < 4398046511104
 ·rw [if_pos c, Option.some.injEq] at h
  subst h
  have LM := ak c
  have HR0 := ak hr0
  clear hr0 hc0 c
  have hq : ∀ (w : World) (a : Option Addr) (n c n' c' : Nat), (binOp .eql 26 (.slice a n c) (.slice none n' c')).run Try.prog w = .ok (.bool a.isNone) w := fun w a n c n' c' => Lib.run_eql_slice_nil w _ _ a n c n' c' Try.underlying26
  cases A0 with
  | none =>
   have h0 : l0 = [] := by
    rcases Nat.eq_zero_or_pos l0.length with h0 | h0
    ·exact List.eq_nil_of_length_eq_zero h0
    ·obtain ⟨ad, h, _⟩ := HR0.out.2.2 h0; cases h
   subst h0
   go_enter Try.func69, Try.ntmps69
   go_wp2
   go_ret
   exact ⟨_, rfl, Kd.R_nil _ _ _ _ _, Below.refl _ _⟩
  | some ad =>
   go_enter Try.func69, Try.ntmps69
   go_wp2_with (first
    | ((with_reducible refine gate_dst (N := 5) rfl ?_); refine Kd.R_lit k45 _ 45 ?hg (N := 5) ?hd (xs := ([] : List (S45))) (inner := []) (ok := fun _ => True) (okp := fun _ => True) ?hr ?hp (fun _ hk => hk) trivial (Below.refl _ _) (Nat.le_refl _) (by simp) ?_; (case hd => rfl); (case hg => rfl); (case hr => first | (go_simp; done) | (go_simp; rfl)); (case hp => exact (Reps.none _ _)); intro v1 w1 ho1 hb hg_ hnew_; clear hg_ hnew_; have HO := ak ho1; have HB := ak hb; clear ho1 hb)
    | ((with_reducible refine gate_builtin (b := .append) (xs := #[.tmp 5, .tmp 6]) rfl ?_); at_builtin; refine Kd.R_append_rows k45 (w0 := w) w.heap.size rfl (.tmp 5) (.tmp 6) 26 45 (.agg #[(.string ⟨#[]⟩), (.string ⟨#[]⟩)]) 32 rfl Try.underlying26 info45 rfl (by decide) (by omega) v1 [] l0 _ _ _ (fun _ => True) (fun _ => False) rfl rfl ?aO ?aR (fun _ _ h => h) (fun _ h => h.elim) ?aF ?aB ?aS ?aL ?_; (case aR => exact Kd.C_below HR0.out HB.out); (case aB => exact HB.out); (case aF => exact (fun _ _ => trivial)); (case aO => exact HO.out); (case aS => exact HB.out.size); (case aL => have := LM.out; simp only [List.length_nil]; omega); intro v2 w2 ho hb hg hat; have HO2 := ak ho; have HB2 := ak hb; clear ho hb hg hat))
   go_ret
   exact ⟨_, rfl, HO2.out, HB2.out⟩
 ·rw [if_neg c] at h; exact absurd h (by simp)

end Go.Proofs.Ytfopmaiednikhaa.PFnParts
