-- written by a program of this session (wip/tool)
import Derived.Test.YtlmnmakkojgfnaaGreatDoorPFnExactKeptForx0
import Derived.Test.YtlmnmakkojgfnaaGreatDoorPFnExactKeptForx3
import Derived.Test.YtlmnmakkojgfnaaGreatDoorPFnExactKeptForx4
import Derived.Test.YtlmnmakkojgfnaaGreatDoorPFnExactKeptForx5
import Derived.Test.YtlmnmakkojgfnaaGreatDoorVOwn0
import Derived.Test.YtlmnmakkojgfnaaGreatDoorVOwnOpen
import Derived.WalkKit
import Derived.BigCall
import Derived.Test.YtlmnmakkojgfnaaGreatDoorOwnTr
import Derived.Test.YtlmnmakkojgfnaaGreatDoorVOwnShort
import Derived.Test.YtlmnmakkojgfnaaGreatDoorOwnSq
import Derived.Test.YtlmnmakkojgfnaaGreatDoorOwnIt
namespace Go.Proofs.YtlmnmakkojgfnaaGreatDoor.PFnExactKeptFor
open Go.RowKit Go.Proofs.YtlmnmakkojgfnaaGreatDoorW.PrintWords Go.Proofs.YtlmnmakkojgfnaaGreatDoorW.PrintLast Go.Proofs.YtlmnmakkojgfnaaGreatDoorW.PrintMore Go.Shelf Go.Proofs.YtlmnmakkojgfnaaGreatDoorOwn
attribute [local go_sem] max2_int min2_int max_two min_two max_three min_three max_four min_four   -- for this text's walks alone
set_option linter.unusedVariables false
set_option linter.unusedSimpArgs false

/-! ### spec_GoodUrl: function 36 -/
def spec_GoodUrl.j0 : Nat → Bool → ByteArray → ByteArray → Int → ByteArray → ByteArray → Bool → Option (Bool)
 | 0, _, _, _, _, _, _, _ => none
 | k + 1, x34, x217000, x217001, x217002, x217003, x217004, x217005 => if x34 = true then (some false) else ((spec_l1Chars.f k x217003 (⟨#[47]⟩ : ByteArray)).bind fun t221 => (if t221 = true then ((spec_l1Chars.f k x217004 (⟨#[47, 63]⟩ : ByteArray)).bind fun t222 => (if t222 = true then (if x217005 = true then ((spec_l1Text.f k x217000 x217001 x217002 x217003 x217004 x217005).bind fun t223 => (some (decide ((t223.size : Int) ≤ 200)))) else (if x217004.toList = ([] : List UInt8) then ((spec_l1Text.f k x217000 x217001 x217002 x217003 x217004 x217005).bind fun t224 => (some (decide ((t224.size : Int) ≤ 200)))) else (some false))) else (some false))) else (some false)))
def spec_GoodUrl.f (k : Nat) (a0_0 : ByteArray) (a0_1 : ByteArray) (a0_2 : Int) (a0_3 : ByteArray) (a0_4 : ByteArray) (a0_5 : Bool) : Option (Bool) := if a0_0.toList = ([104, 116, 116, 112] : List UInt8) then ((spec_l1Host.f k a0_1).bind fun t217 => (if t217 = true then ((spec_l1In.f a0_2 0 65535).bind fun t218 => (if t218 = true then (if (a0_3.size : Int) = 0 then (spec_GoodUrl.j0 k true a0_0 a0_1 a0_2 a0_3 a0_4 a0_5) else (if 0 < (a0_3.size : Int) then (spec_GoodUrl.j0 k ((bt a0_3 0) != 47) a0_0 a0_1 a0_2 a0_3 a0_4 a0_5) else (none))) else (spec_GoodUrl.j0 k true a0_0 a0_1 a0_2 a0_3 a0_4 a0_5))) else (spec_GoodUrl.j0 k true a0_0 a0_1 a0_2 a0_3 a0_4 a0_5))) else (if a0_0.toList = ([104, 116, 116, 112, 115] : List UInt8) then ((spec_l1Host.f k a0_1).bind fun t219 => (if t219 = true then ((spec_l1In.f a0_2 0 65535).bind fun t220 => (if t220 = true then (if (a0_3.size : Int) = 0 then (spec_GoodUrl.j0 k true a0_0 a0_1 a0_2 a0_3 a0_4 a0_5) else (if 0 < (a0_3.size : Int) then (spec_GoodUrl.j0 k ((bt a0_3 0) != 47) a0_0 a0_1 a0_2 a0_3 a0_4 a0_5) else (none))) else (spec_GoodUrl.j0 k true a0_0 a0_1 a0_2 a0_3 a0_4 a0_5))) else (spec_GoodUrl.j0 k true a0_0 a0_1 a0_2 a0_3 a0_4 a0_5))) else (spec_GoodUrl.j0 k true a0_0 a0_1 a0_2 a0_3 a0_4 a0_5))
theorem spec_GoodUrl.mono_l : ∀ k, (∀ y0 y1 y2 y3 y4 y5 y6, LeO (spec_GoodUrl.j0 k y0 y1 y2 y3 y4 y5 y6) (spec_GoodUrl.j0 (k + 1) y0 y1 y2 y3 y4 y5 y6))
 | 0 => fun _ _ _ _ _ _ _ r h => by simp [spec_GoodUrl.j0] at h
 | k + 1 => by
  have ih0 := spec_GoodUrl.mono_l k
  ·intro y0 y1 y2 y3 y4 y5 y6
   unfold spec_GoodUrl.j0
   repeat' with_reducible first | exact ih0 _ _ _ _ _ _ _ | exact spec_l1Chars.mono _ _ _ | exact spec_l1Host.mono _ _ | exact spec_l1Text.mono _ _ _ _ _ _ _ | exact LeO.refl _ | exact LeO.none _ | refine LeO.ite ?_ ?_ | refine LeO.bind ?_ (fun _ => ?_)
theorem spec_GoodUrl.mono : ∀ a0 a1 a2 a3 a4 a5 k, LeO (spec_GoodUrl.f k a0 a1 a2 a3 a4 a5) (spec_GoodUrl.f (k + 1) a0 a1 a2 a3 a4 a5) := by
 intro a0 a1 a2 a3 a4 a5 k
 have ih0 := spec_GoodUrl.mono_l k
 unfold spec_GoodUrl.f
 repeat' with_reducible first | exact ih0 _ _ _ _ _ _ _ | exact spec_l1Chars.mono _ _ _ | exact spec_l1Host.mono _ _ | exact spec_l1Text.mono _ _ _ _ _ _ _ | exact LeO.refl _ | exact LeO.none _ | refine LeO.ite ?_ ?_ | refine LeO.bind ?_ (fun _ => ?_)
set_option maxHeartbeats 8000000 in
set_option maxRecDepth 100000 in
theorem spec_GoodUrl.calls (k : Nat) (a0_0 : ByteArray) (a0_1 : ByteArray) (a0_2 : Int) (a0_3 : ByteArray) (a0_4 : ByteArray) (a0_5 : Bool) (r : Bool) (w : World) (h : spec_GoodUrl.f k a0_0 a0_1 a0_2 a0_3 a0_4 a0_5 = some r) :
  Calls Tryz.prog 36 #[.agg #[.string a0_0, .string a0_1, .int .i64 a0_2, .string a0_3, .string a0_4, .bool a0_5]] w fun e w' => e = .returned (.bool r) ∧ Below w.heap.size w w' := by
 have hu29 := Tryz.underlying29
 have HB := ak (Below.refl w.heap.size w)
 unfold spec_GoodUrl.f at h; have H := h
 clear h
 have HC2 := ak H
 clear H
 go_enter Tryz.func36, Tryz.ntmps36
 go_upto_region 1 with (first | ((with_reducible refine gd 1 ?_); (try (refine gate_guard (by rfl) ?_; dsimp only)); refine bE 1 #[.string a0_0, .string a0_1, .int .i64 a0_2, .string a0_3, .string a0_4, .bool a0_5] 29 ?_; intro gb216 hg w3 hbox hb; have BK216 := ak hbox; have GW216 := gs hg (bl HB.out); have GE216 := gs hg (bl HB.out); replace HB := ak (below_step (bl HB.out) hb); clear hb hbox hg))
 (try simp only [Act.put, List.setIfInBounds_toArray, List.set_cons_zero, List.set_cons_succ])
 go_cut [34] (fun v34 wc => ∃ (kq : Nat) (x34_1 : Bool), v34 = .bool x34_1 ∧ Aside0 (spec_GoodUrl.j0 kq x34_1 a0_0 a0_1 a0_2 a0_3 a0_4 a0_5 = some r) ∧ Aside0 (kq ≤ k) ∧ Aside0 (wc.heap[gb216]? = some (.cells #[.string a0_0, .string a0_1, .int .i64 a0_2, .string a0_3, .string a0_4, .bool a0_5] 29 (0, 0))) ∧ Aside0 (Below w.heap.size w wc))
 case first =>
  have H := HC2.out
  clear HC2
  by_cases c4 : a0_0.toList = ([104, 116, 116, 112] : List UInt8)
  ·rw [if_pos c4] at H
   have c4b0 : (a0_0.toList == ([104, 116, 116, 112] : List UInt8)) = true := beq_iff_eq.mpr c4
   have c4b1 : (a0_0.toList != ([104, 116, 116, 112] : List UInt8)) = false := bne_eq_false_iff_eq.mpr c4
   clear c4
   (first | rw [c4b0] | (simp only [i64_w, i32_w]; rw [c4b0]) | skip)
   replace H := bs H
   obtain ⟨t217, A5, H⟩ := H
   try dsimp only at H
   by_cases c6 : t217 = true
   ·subst c6
    rw [if_pos rfl] at H
    replace H := bs H
    obtain ⟨t218, A7, H⟩ := H
    try dsimp only at H
    by_cases c8 : t218 = true
    ·subst c8
     rw [if_pos rfl] at H
     by_cases c9 : (a0_3.size : Int) = 0
     ·rw [if_pos c9] at H
      have c9b0 : ((a0_3.size : Int) == 0) = true := beq_iff_eq.mpr c9
      have c9b1 : ((a0_3.size : Int) != 0) = false := bne_eq_false_iff_eq.mpr c9
      clear c9
      have H' := ak H
      clear H
      obtain ⟨_, _, _, _, _, _, _, _, _, _, _, _⟩ := b6 BK216.out
      go_wp2_with (first | (go_at_call 75; (with_reducible refine (spec_l1Host.calls k a0_1 true _ A5.out).mono ?_); rintro e w' ⟨rfl, ⟨nd, rfl⟩⟩) | (go_at_call 37; (with_reducible refine (spec_l1In.calls a0_2 0 65535 true _ A7.out).mono ?_); rintro e w' ⟨rfl, ⟨nd, rfl⟩⟩))
      go_meet
      case rel => exact ⟨_, (true), (by first | rfl | (simp; done) | (simp [*]; done)), H', ⟨by first | omega | exact Nat.le_refl _⟩, ⟨bk BK216.out⟩, ⟨bl1 HB.out GE216.out⟩⟩
     ·rw [if_neg c9] at H
      have c9b0 : ((a0_3.size : Int) == 0) = false := beq_eq_false_iff_ne.mpr c9
      have c9b1 : ((a0_3.size : Int) != 0) = true := bne_iff_ne.mpr c9
      by_cases c11 : 0 < (a0_3.size : Int)
      ·rw [if_pos c11] at H
       have c11b0 := decide_eq_true c11
       have c11b1 : decide (0 < a0_3.size) = true := decide_eq_true (by omega)
       clear c11
       have H' := ak H
       clear H
       obtain ⟨_, _, _, _, _, _, _, _, _, _, _, _⟩ := b6 BK216.out
       go_wp2_with (first | (go_at_call 75; (with_reducible refine (spec_l1Host.calls k a0_1 true _ A5.out).mono ?_); rintro e w' ⟨rfl, ⟨nd, rfl⟩⟩) | (go_at_call 37; (with_reducible refine (spec_l1In.calls a0_2 0 65535 true _ A7.out).mono ?_); rintro e w' ⟨rfl, ⟨nd, rfl⟩⟩; have p12 : 0 ≤ (0 : Int) := (by omega); have q12 : 0 < a0_3.size := (by have : (0 : Int) < (a0_3.size : Int) := od; omega); have hx12 : ∀ h : 0 < a0_3.size, ((a0_3[0]'h).toNat : Int) = bt a0_3 0 := bt_at a0_3 0; clear p12; have qi12 : (0 < (a0_3.size : Int)) = True := eq_true (od); replace q12 := eq_true q12))
       go_meet
       case rel => exact ⟨_, (((bt a0_3 0) != 47)), (by first | rfl | (simp; done) | (simp [*]; done)), H', ⟨by first | omega | exact Nat.le_refl _⟩, ⟨bk BK216.out⟩, ⟨bl1 HB.out GE216.out⟩⟩
      ·rw [if_neg c11] at H
       exact absurd H (by simp)
    ·replace c8 := Bool.eq_false_iff.mpr c8
     subst c8
     rw [if_neg ff] at H
     have H' := ak H
     clear H
     obtain ⟨_, _, _, _, _, _, _, _, _, _, _, _⟩ := b6 BK216.out
     go_wp2_with (first | (go_at_call 75; (with_reducible refine (spec_l1Host.calls k a0_1 true _ A5.out).mono ?_); rintro e w' ⟨rfl, ⟨nd, rfl⟩⟩) | (go_at_call 37; (with_reducible refine (spec_l1In.calls a0_2 0 65535 false _ A7.out).mono ?_); rintro e w' ⟨rfl, ⟨nd, rfl⟩⟩))
     go_meet
     case rel => exact ⟨_, (true), (by first | rfl | (simp; done) | (simp [*]; done)), H', ⟨by first | omega | exact Nat.le_refl _⟩, ⟨bk BK216.out⟩, ⟨bl1 HB.out GE216.out⟩⟩
   ·replace c6 := Bool.eq_false_iff.mpr c6
    subst c6
    rw [if_neg ff] at H
    have H' := ak H
    clear H
    obtain ⟨_, _, _, _, _, _, _, _, _, _, _, _⟩ := b6 BK216.out
    go_wp2_with (first | (go_at_call 75; (with_reducible refine (spec_l1Host.calls k a0_1 false _ A5.out).mono ?_); rintro e w' ⟨rfl, ⟨nd, rfl⟩⟩))
    go_meet
    case rel => exact ⟨_, (true), (by first | rfl | (simp; done) | (simp [*]; done)), H', ⟨by first | omega | exact Nat.le_refl _⟩, ⟨bk BK216.out⟩, ⟨bl1 HB.out GE216.out⟩⟩
  ·rw [if_neg c4] at H
   have c4b0 : (a0_0.toList == ([104, 116, 116, 112] : List UInt8)) = false := beq_eq_false_iff_ne.mpr c4
   have c4b1 : (a0_0.toList != ([104, 116, 116, 112] : List UInt8)) = true := bne_iff_ne.mpr c4
   (first | rw [c4b0] | (simp only [i64_w, i32_w]; rw [c4b0]) | skip)
   by_cases c16 : a0_0.toList = ([104, 116, 116, 112, 115] : List UInt8)
   ·rw [if_pos c16] at H
    have c16b0 : (a0_0.toList == ([104, 116, 116, 112, 115] : List UInt8)) = true := beq_iff_eq.mpr c16
    have c16b1 : (a0_0.toList != ([104, 116, 116, 112, 115] : List UInt8)) = false := bne_eq_false_iff_eq.mpr c16
    clear c16
    replace H := bs H
    obtain ⟨t219, A17, H⟩ := H
    try dsimp only at H
    by_cases c18 : t219 = true
    ·subst c18
     rw [if_pos rfl] at H
     replace H := bs H
     obtain ⟨t220, A19, H⟩ := H
     try dsimp only at H
     by_cases c20 : t220 = true
     ·subst c20
      rw [if_pos rfl] at H
      by_cases c21 : (a0_3.size : Int) = 0
      ·rw [if_pos c21] at H
       have c21b0 : ((a0_3.size : Int) == 0) = true := beq_iff_eq.mpr c21
       have c21b1 : ((a0_3.size : Int) != 0) = false := bne_eq_false_iff_eq.mpr c21
       clear c21
       have H' := ak H
       clear H
       obtain ⟨_, _, _, _, _, _, _, _, _, _, _, _⟩ := b6 BK216.out
       go_wp2_with (first | (go_at_call 75; (with_reducible refine (spec_l1Host.calls k a0_1 true _ A17.out).mono ?_); rintro e w' ⟨rfl, ⟨nd, rfl⟩⟩) | (go_at_call 37; (with_reducible refine (spec_l1In.calls a0_2 0 65535 true _ A19.out).mono ?_); rintro e w' ⟨rfl, ⟨nd, rfl⟩⟩))
       go_meet
       case rel => exact ⟨_, (true), (by first | rfl | (simp; done) | (simp [*]; done)), H', ⟨by first | omega | exact Nat.le_refl _⟩, ⟨bk BK216.out⟩, ⟨bl1 HB.out GE216.out⟩⟩
      ·rw [if_neg c21] at H
       have c21b0 : ((a0_3.size : Int) == 0) = false := beq_eq_false_iff_ne.mpr c21
       have c21b1 : ((a0_3.size : Int) != 0) = true := bne_iff_ne.mpr c21
       by_cases c23 : 0 < (a0_3.size : Int)
       ·rw [if_pos c23] at H
        have c23b0 := decide_eq_true c23
        have c23b1 : decide (0 < a0_3.size) = true := decide_eq_true (by omega)
        clear c23
        have H' := ak H
        clear H
        obtain ⟨_, _, _, _, _, _, _, _, _, _, _, _⟩ := b6 BK216.out
        go_wp2_with (first | (go_at_call 75; (with_reducible refine (spec_l1Host.calls k a0_1 true _ A17.out).mono ?_); rintro e w' ⟨rfl, ⟨nd, rfl⟩⟩) | (go_at_call 37; (with_reducible refine (spec_l1In.calls a0_2 0 65535 true _ A19.out).mono ?_); rintro e w' ⟨rfl, ⟨nd, rfl⟩⟩; have p24 : 0 ≤ (0 : Int) := (by omega); have q24 : 0 < a0_3.size := (by have : (0 : Int) < (a0_3.size : Int) := od; omega); have hx24 : ∀ h : 0 < a0_3.size, ((a0_3[0]'h).toNat : Int) = bt a0_3 0 := bt_at a0_3 0; clear p24; have qi24 : (0 < (a0_3.size : Int)) = True := eq_true (od); replace q24 := eq_true q24))
        go_meet
        case rel => exact ⟨_, (((bt a0_3 0) != 47)), (by first | rfl | (simp; done) | (simp [*]; done)), H', ⟨by first | omega | exact Nat.le_refl _⟩, ⟨bk BK216.out⟩, ⟨bl1 HB.out GE216.out⟩⟩
       ·rw [if_neg c23] at H
        exact absurd H (by simp)
     ·replace c20 := Bool.eq_false_iff.mpr c20
      subst c20
      rw [if_neg ff] at H
      have H' := ak H
      clear H
      obtain ⟨_, _, _, _, _, _, _, _, _, _, _, _⟩ := b6 BK216.out
      go_wp2_with (first | (go_at_call 75; (with_reducible refine (spec_l1Host.calls k a0_1 true _ A17.out).mono ?_); rintro e w' ⟨rfl, ⟨nd, rfl⟩⟩) | (go_at_call 37; (with_reducible refine (spec_l1In.calls a0_2 0 65535 false _ A19.out).mono ?_); rintro e w' ⟨rfl, ⟨nd, rfl⟩⟩))
      go_meet
      case rel => exact ⟨_, (true), (by first | rfl | (simp; done) | (simp [*]; done)), H', ⟨by first | omega | exact Nat.le_refl _⟩, ⟨bk BK216.out⟩, ⟨bl1 HB.out GE216.out⟩⟩
    ·replace c18 := Bool.eq_false_iff.mpr c18
     subst c18
     rw [if_neg ff] at H
     have H' := ak H
     clear H
     obtain ⟨_, _, _, _, _, _, _, _, _, _, _, _⟩ := b6 BK216.out
     go_wp2_with (first | (go_at_call 75; (with_reducible refine (spec_l1Host.calls k a0_1 false _ A17.out).mono ?_); rintro e w' ⟨rfl, ⟨nd, rfl⟩⟩))
     go_meet
     case rel => exact ⟨_, (true), (by first | rfl | (simp; done) | (simp [*]; done)), H', ⟨by first | omega | exact Nat.le_refl _⟩, ⟨bk BK216.out⟩, ⟨bl1 HB.out GE216.out⟩⟩
   ·rw [if_neg c16] at H
    have c16b0 : (a0_0.toList == ([104, 116, 116, 112, 115] : List UInt8)) = false := beq_eq_false_iff_ne.mpr c16
    have c16b1 : (a0_0.toList != ([104, 116, 116, 112, 115] : List UInt8)) = true := bne_iff_ne.mpr c16
    have H' := ak H
    clear H
    obtain ⟨_, _, _, _, _, _, _, _, _, _, _, _⟩ := b6 BK216.out
    go_wp2
    go_meet
    case rel => exact ⟨_, (true), (by first | rfl | (simp; done) | (simp [*]; done)), H', ⟨by first | omega | exact Nat.le_refl _⟩, ⟨bk BK216.out⟩, ⟨bl1 HB.out GE216.out⟩⟩
 case rest =>
  clear HC2
  try clear c1
  try clear p1
  try clear q1
  try clear hx1
  try clear qi1
  try clear c2
  try clear p2
  try clear q2
  try clear hx2
  try clear qi2
  try clear c3
  try clear c4
  try clear c4b0
  try clear c4b1
  try clear c6
  try clear c8
  try clear c9
  try clear c9b0
  try clear c9b1
  try clear c11
  try clear c11b0
  try clear c11b1
  try clear p12
  try clear q12
  try clear hx12
  try clear qi12
  try clear c16
  try clear c16b0
  try clear c16b1
  try clear c18
  try clear c20
  try clear c21
  try clear c21b0
  try clear c21b1
  try clear c23
  try clear c23b0
  try clear c23b1
  try clear p24
  try clear q24
  try clear hx24
  try clear qi24
  try clear hcz10_0
  try clear hcz10_1
  try clear hcz10_2
  try clear hcz10_3
  try clear hcz10_4
  try clear hcz10_5
  try clear hcz13_0
  try clear hcz13_1
  try clear hcz13_2
  try clear hcz13_3
  try clear hcz13_4
  try clear hcz13_5
  try clear hcz14_0
  try clear hcz14_1
  try clear hcz14_2
  try clear hcz14_3
  try clear hcz14_4
  try clear hcz14_5
  try clear hcz15_0
  try clear hcz15_1
  try clear hcz15_2
  try clear hcz15_3
  try clear hcz15_4
  try clear hcz15_5
  try clear hcz22_0
  try clear hcz22_1
  try clear hcz22_2
  try clear hcz22_3
  try clear hcz22_4
  try clear hcz22_5
  try clear hcz25_0
  try clear hcz25_1
  try clear hcz25_2
  try clear hcz25_3
  try clear hcz25_4
  try clear hcz25_5
  try clear hcz26_0
  try clear hcz26_1
  try clear hcz26_2
  try clear hcz26_3
  try clear hcz26_4
  try clear hcz26_5
  try clear hcz27_0
  try clear hcz27_1
  try clear hcz27_2
  try clear hcz27_3
  try clear hcz27_4
  try clear hcz27_5
  try clear hcz28_0
  try clear hcz28_1
  try clear hcz28_2
  try clear hcz28_3
  try clear hcz28_4
  try clear hcz28_5
  try clear hfz10_0
  try clear hfz10_1
  try clear hfz10_2
  try clear hfz10_3
  try clear hfz10_4
  try clear hfz10_5
  try clear hfz13_0
  try clear hfz13_1
  try clear hfz13_2
  try clear hfz13_3
  try clear hfz13_4
  try clear hfz13_5
  try clear hfz14_0
  try clear hfz14_1
  try clear hfz14_2
  try clear hfz14_3
  try clear hfz14_4
  try clear hfz14_5
  try clear hfz15_0
  try clear hfz15_1
  try clear hfz15_2
  try clear hfz15_3
  try clear hfz15_4
  try clear hfz15_5
  try clear hfz22_0
  try clear hfz22_1
  try clear hfz22_2
  try clear hfz22_3
  try clear hfz22_4
  try clear hfz22_5
  try clear hfz25_0
  try clear hfz25_1
  try clear hfz25_2
  try clear hfz25_3
  try clear hfz25_4
  try clear hfz25_5
  try clear hfz26_0
  try clear hfz26_1
  try clear hfz26_2
  try clear hfz26_3
  try clear hfz26_4
  try clear hfz26_5
  try clear hfz27_0
  try clear hfz27_1
  try clear hfz27_2
  try clear hfz27_3
  try clear hfz27_4
  try clear hfz27_5
  try clear hfz28_0
  try clear hfz28_1
  try clear hfz28_2
  try clear hfz28_3
  try clear hfz28_4
  try clear hfz28_5
  try clear p12
  try clear p24
  try clear q12
  try clear q24
  obtain ⟨kq, x34_1, rfl, HA, HJ1, BK216, HB⟩ := hcut
  cases kq with
  | zero => exact absurd HA.out (by simp [spec_GoodUrl.j0])
  | succ kj1 =>
   have H := HA.out
   clear HA
   simp only [spec_GoodUrl.j0] at H
   by_cases c29 : x34_1 = true
   ·subst c29
    rw [if_pos rfl] at H
    obtain rfl := Option.some.inj H
    go_wp2
    go_ret
    exact rz (bl1 HB.out GE216.out)
   ·replace c29 := Bool.eq_false_iff.mpr c29
    subst c29
    rw [if_neg ff] at H
    replace H := bs H
    obtain ⟨t221, A30, H⟩ := H
    try dsimp only at H
    by_cases c31 : t221 = true
    ·subst c31
     rw [if_pos rfl] at H
     replace H := bs H
     obtain ⟨t222, A32, H⟩ := H
     try dsimp only at H
     by_cases c33 : t222 = true
     ·subst c33
      rw [if_pos rfl] at H
      by_cases c34 : a0_5 = true
      ·subst c34
       rw [if_pos rfl] at H
       replace H := bs H
       obtain ⟨t223, A35, H⟩ := H
       try dsimp only at H
       obtain rfl := Option.some.inj H
       obtain ⟨_, _, _, _, _, _, _, _, _, _, _, _⟩ := b6 BK216.out
       go_wp2_with (first | ((with_reducible refine gc 76 ?_); refine gL 76 Tryz.func76 (some 37) #[.string a0_3, .string (⟨#[47]⟩ : ByteArray)] ?_; (with_reducible refine (spec_l1Chars.calls kj1 a0_3 (⟨#[47]⟩ : ByteArray) true _ A30.out).mono ?_); rintro e w' ⟨rfl, ⟨nd, rfl⟩⟩; refine ⟨_, rfl, ?_⟩) | (go_at_call 76; (with_reducible refine (spec_l1Chars.calls kj1 a0_4 (⟨#[47, 63]⟩ : ByteArray) true _ A32.out).mono ?_); rintro e w' ⟨rfl, ⟨nd, rfl⟩⟩) | (go_at_call 77; (with_reducible refine (spec_l1Text.calls kj1 a0_0 a0_1 a0_2 a0_3 a0_4 true t223 _ A35.out).mono ?_); rintro e w37 ⟨rfl, hb⟩; replace BK216 := ak (blk_below (bk BK216.out) hb); replace HB := ak (below_step (bl1 HB.out GE216.out) hb); clear hb))
       go_ret
       exact rz (bl1 HB.out GE216.out)
      ·replace c34 := Bool.eq_false_iff.mpr c34
       subst c34
       rw [if_neg ff] at H
       by_cases c38 : a0_4.toList = ([] : List UInt8)
       ·rw [if_pos c38] at H
        have c38b0 : (a0_4.toList == ([] : List UInt8)) = true := beq_iff_eq.mpr c38
        have c38b1 : (a0_4.toList != ([] : List UInt8)) = false := bne_eq_false_iff_eq.mpr c38
        clear c38
        replace H := bs H
        obtain ⟨t224, A39, H⟩ := H
        try dsimp only at H
        obtain rfl := Option.some.inj H
        obtain ⟨_, _, _, _, _, _, _, _, _, _, _, _⟩ := b6 BK216.out
        go_wp2_with (first | ((with_reducible refine gc 76 ?_); refine gL 76 Tryz.func76 (some 37) #[.string a0_3, .string (⟨#[47]⟩ : ByteArray)] ?_; (with_reducible refine (spec_l1Chars.calls kj1 a0_3 (⟨#[47]⟩ : ByteArray) true _ A30.out).mono ?_); rintro e w' ⟨rfl, ⟨nd, rfl⟩⟩; refine ⟨_, rfl, ?_⟩) | (go_at_call 76; (with_reducible refine (spec_l1Chars.calls kj1 a0_4 (⟨#[47, 63]⟩ : ByteArray) true _ A32.out).mono ?_); rintro e w' ⟨rfl, ⟨nd, rfl⟩⟩) | (go_at_call 77; (with_reducible refine (spec_l1Text.calls kj1 a0_0 a0_1 a0_2 a0_3 a0_4 false t224 _ A39.out).mono ?_); rintro e w41 ⟨rfl, hb⟩; replace BK216 := ak (blk_below (bk BK216.out) hb); replace HB := ak (below_step (bl1 HB.out GE216.out) hb); clear hb))
        go_ret
        exact rz (bl1 HB.out GE216.out)
       ·rw [if_neg c38] at H
        have c38b0 : (a0_4.toList == ([] : List UInt8)) = false := beq_eq_false_iff_ne.mpr c38
        have c38b1 : (a0_4.toList != ([] : List UInt8)) = true := bne_iff_ne.mpr c38
        obtain rfl := Option.some.inj H
        obtain ⟨_, _, _, _, _, _, _, _, _, _, _, _⟩ := b6 BK216.out
        go_wp2_with (first | ((with_reducible refine gc 76 ?_); refine gL 76 Tryz.func76 (some 37) #[.string a0_3, .string (⟨#[47]⟩ : ByteArray)] ?_; (with_reducible refine (spec_l1Chars.calls kj1 a0_3 (⟨#[47]⟩ : ByteArray) true _ A30.out).mono ?_); rintro e w' ⟨rfl, ⟨nd, rfl⟩⟩; refine ⟨_, rfl, ?_⟩) | (go_at_call 76; (with_reducible refine (spec_l1Chars.calls kj1 a0_4 (⟨#[47, 63]⟩ : ByteArray) true _ A32.out).mono ?_); rintro e w' ⟨rfl, ⟨nd, rfl⟩⟩))
        go_ret
        exact rz (bl1 HB.out GE216.out)
     ·replace c33 := Bool.eq_false_iff.mpr c33
      subst c33
      rw [if_neg ff] at H
      obtain rfl := Option.some.inj H
      obtain ⟨_, _, _, _, _, _, _, _, _, _, _, _⟩ := b6 BK216.out
      go_wp2_with (first | ((with_reducible refine gc 76 ?_); refine gL 76 Tryz.func76 (some 37) #[.string a0_3, .string (⟨#[47]⟩ : ByteArray)] ?_; (with_reducible refine (spec_l1Chars.calls kj1 a0_3 (⟨#[47]⟩ : ByteArray) true _ A30.out).mono ?_); rintro e w' ⟨rfl, ⟨nd, rfl⟩⟩; refine ⟨_, rfl, ?_⟩) | (go_at_call 76; (with_reducible refine (spec_l1Chars.calls kj1 a0_4 (⟨#[47, 63]⟩ : ByteArray) false _ A32.out).mono ?_); rintro e w' ⟨rfl, ⟨nd, rfl⟩⟩))
      go_ret
      exact rz (bl1 HB.out GE216.out)
    ·replace c31 := Bool.eq_false_iff.mpr c31
     subst c31
     rw [if_neg ff] at H
     obtain rfl := Option.some.inj H
     obtain ⟨_, _, _, _, _, _, _, _, _, _, _, _⟩ := b6 BK216.out
     go_wp2_with (first | ((with_reducible refine gc 76 ?_); refine gL 76 Tryz.func76 (some 37) #[.string a0_3, .string (⟨#[47]⟩ : ByteArray)] ?_; (with_reducible refine (spec_l1Chars.calls kj1 a0_3 (⟨#[47]⟩ : ByteArray) false _ A30.out).mono ?_); rintro e w' ⟨rfl, ⟨nd, rfl⟩⟩; refine ⟨_, rfl, ?_⟩))
     go_ret
     exact rz (bl1 HB.out GE216.out)

/-! ### spec_l3TokenByte: function 153 -/
def spec_l3TokenByte.f (k : Nat) (a0 : Int) : Option (Bool) := (spec_l1Letter.f a0).bind fun t225 => (if t225 = true then (some true) else ((spec_l1Digit.f a0).bind fun t226 => (if t226 = true then (some true) else ((spec_l1Has.f k (⟨#[33, 35, 36, 37, 38, 39, 42, 43, 45, 46, 94, 95, 124, 126]⟩ : ByteArray) a0).bind fun t227 => (if t227 = true then (some true) else (some (a0 == 96)))))))
theorem spec_l3TokenByte.mono : ∀ a0 k, LeO (spec_l3TokenByte.f k a0) (spec_l3TokenByte.f (k + 1) a0) := by
 intro a0 k
 unfold spec_l3TokenByte.f
 repeat' with_reducible first | exact spec_l1Has.mono _ _ _ | exact LeO.refl _ | exact LeO.none _ | refine LeO.ite ?_ ?_ | refine LeO.bind ?_ (fun _ => ?_)
set_option maxHeartbeats 8000000 in
set_option maxRecDepth 100000 in
theorem spec_l3TokenByte.calls (k : Nat) (a0 : Int) (r : Bool) (w : World) (h : spec_l3TokenByte.f k a0 = some r) :
  Calls Tryz.prog 153 #[.int .u8 a0] w fun e w' => e = .returned (.bool r) ∧ Drawn0 w w' := by
 unfold spec_l3TokenByte.f at h; have H := h
 clear h
 replace H := bs H
 obtain ⟨t225, A2, H⟩ := H
 try dsimp only at H
 by_cases c3 : t225 = true
 ·subst c3
  rw [if_pos rfl] at H
  obtain rfl := Option.some.inj H
  go_enter Tryz.func153, Tryz.ntmps153
  go_wp2_with (first | ((with_reducible refine gc 118 ?_); refine gL 118 Tryz.func118 (some 4) #[.int .u8 a0] ?_; (with_reducible refine (spec_l1Letter.calls a0 true _ A2.out).mono ?_); rintro e w' ⟨rfl, ⟨nd, rfl⟩⟩; refine ⟨_, rfl, ?_⟩))
  go_ret
  exact ⟨by first | rfl | (simp; done) | (simp [*]; done) | (simp only [Ending.returned.injEq, Value.tuple.injEq, i64_w]; rfl) | (simp [i64_w]; rfl), by repeat (first | exact Drawn0.refl _ | apply Drawn0.step)⟩
 ·replace c3 := Bool.eq_false_iff.mpr c3
  subst c3
  rw [if_neg ff] at H
  replace H := bs H
  obtain ⟨t226, A4, H⟩ := H
  try dsimp only at H
  by_cases c5 : t226 = true
  ·subst c5
   rw [if_pos rfl] at H
   obtain rfl := Option.some.inj H
   go_enter Tryz.func153, Tryz.ntmps153
   go_wp2_with (first | ((with_reducible refine gc 118 ?_); refine gL 118 Tryz.func118 (some 4) #[.int .u8 a0] ?_; (with_reducible refine (spec_l1Letter.calls a0 false _ A2.out).mono ?_); rintro e w' ⟨rfl, ⟨nd, rfl⟩⟩; refine ⟨_, rfl, ?_⟩) | (go_at_call 119; (with_reducible refine (spec_l1Digit.calls a0 true _ A4.out).mono ?_); rintro e w' ⟨rfl, ⟨nd, rfl⟩⟩))
   go_ret
   exact ⟨by first | rfl | (simp; done) | (simp [*]; done) | (simp only [Ending.returned.injEq, Value.tuple.injEq, i64_w]; rfl) | (simp [i64_w]; rfl), by repeat (first | exact Drawn0.refl _ | apply Drawn0.step)⟩
  ·replace c5 := Bool.eq_false_iff.mpr c5
   subst c5
   rw [if_neg ff] at H
   replace H := bs H
   obtain ⟨t227, A6, H⟩ := H
   try dsimp only at H
   by_cases c7 : t227 = true
   ·subst c7
    rw [if_pos rfl] at H
    obtain rfl := Option.some.inj H
    go_enter Tryz.func153, Tryz.ntmps153
    go_wp2_with (first | ((with_reducible refine gc 118 ?_); refine gL 118 Tryz.func118 (some 4) #[.int .u8 a0] ?_; (with_reducible refine (spec_l1Letter.calls a0 false _ A2.out).mono ?_); rintro e w' ⟨rfl, ⟨nd, rfl⟩⟩; refine ⟨_, rfl, ?_⟩) | (go_at_call 119; (with_reducible refine (spec_l1Digit.calls a0 false _ A4.out).mono ?_); rintro e w' ⟨rfl, ⟨nd, rfl⟩⟩) | (go_at_call 121; (with_reducible refine (spec_l1Has.calls k (⟨#[33, 35, 36, 37, 38, 39, 42, 43, 45, 46, 94, 95, 124, 126]⟩ : ByteArray) a0 true _ A6.out).mono ?_); rintro e w' ⟨rfl, ⟨nd, rfl⟩⟩))
    go_ret
    exact ⟨by first | rfl | (simp; done) | (simp [*]; done) | (simp only [Ending.returned.injEq, Value.tuple.injEq, i64_w]; rfl) | (simp [i64_w]; rfl), by repeat (first | exact Drawn0.refl _ | apply Drawn0.step)⟩
   ·replace c7 := Bool.eq_false_iff.mpr c7
    subst c7
    rw [if_neg ff] at H
    obtain rfl := Option.some.inj H
    go_enter Tryz.func153, Tryz.ntmps153
    go_wp2_with (first | ((with_reducible refine gc 118 ?_); refine gL 118 Tryz.func118 (some 4) #[.int .u8 a0] ?_; (with_reducible refine (spec_l1Letter.calls a0 false _ A2.out).mono ?_); rintro e w' ⟨rfl, ⟨nd, rfl⟩⟩; refine ⟨_, rfl, ?_⟩) | (go_at_call 119; (with_reducible refine (spec_l1Digit.calls a0 false _ A4.out).mono ?_); rintro e w' ⟨rfl, ⟨nd, rfl⟩⟩) | (go_at_call 121; (with_reducible refine (spec_l1Has.calls k (⟨#[33, 35, 36, 37, 38, 39, 42, 43, 45, 46, 94, 95, 124, 126]⟩ : ByteArray) a0 false _ A6.out).mono ?_); rintro e w' ⟨rfl, ⟨nd, rfl⟩⟩))
    go_ret
    exact ⟨by first | rfl | (simp; done) | (simp [*]; done) | (simp only [Ending.returned.injEq, Value.tuple.injEq, i64_w]; rfl) | (simp [i64_w]; rfl), by repeat (first | exact Drawn0.refl _ | apply Drawn0.step)⟩

/-! ### spec_l3Token: function 107 -/
def spec_l3Token.l0 : Nat → ByteArray → Int → Option (Bool)
 | 0, _, _ => none
 | k + 1, x0, x3 => if x3 < (x0.size : Int) then (if 0 ≤ x3 then ((spec_l3TokenByte.f k (bt x0 x3)).bind fun t228 => (if t228 = true then (spec_l3Token.l0 k x0 (wrap64 (x3 + 1))) else (some false))) else (none)) else ((spec_l1In.f (x0.size : Int) 1 60).bind fun t229 => (some t229))
def spec_l3Token.f (k : Nat) (a0 : ByteArray) : Option (Bool) := spec_l3Token.l0 k a0 0
theorem spec_l3Token.mono_l : ∀ k, (∀ y0 y1, LeO (spec_l3Token.l0 k y0 y1) (spec_l3Token.l0 (k + 1) y0 y1))
 | 0 => fun _ _ r h => by simp [spec_l3Token.l0] at h
 | k + 1 => by
  have ih0 := spec_l3Token.mono_l k
  ·intro y0 y1
   unfold spec_l3Token.l0
   repeat' with_reducible first | exact ih0 _ _ | exact spec_l3TokenByte.mono _ _ | exact LeO.refl _ | exact LeO.none _ | refine LeO.ite ?_ ?_ | refine LeO.bind ?_ (fun _ => ?_)
theorem spec_l3Token.mono : ∀ a0 k, LeO (spec_l3Token.f k a0) (spec_l3Token.f (k + 1) a0) := by
 intro a0 k
 have ih0 := spec_l3Token.mono_l k
 unfold spec_l3Token.f
 repeat' with_reducible first | exact ih0 _ _ | exact spec_l3TokenByte.mono _ _ | exact LeO.refl _ | exact LeO.none _ | refine LeO.ite ?_ ?_ | refine LeO.bind ?_ (fun _ => ?_)
set_option maxHeartbeats 8000000 in
set_option maxRecDepth 100000 in
theorem spec_l3Token.calls (k : Nat) (a0 : ByteArray) (r : Bool) (w : World) (h : spec_l3Token.f k a0 = some r) :
  Calls Tryz.prog 107 #[.string a0] w fun e w' => e = .returned (.bool r) ∧ Drawn0 w w' := by
 have H : (spec_l3Token.l0 k a0 0) = some r := h
 clear h
 have H' := ak H
 clear H
 go_enter Tryz.func107, Tryz.ntmps107
 go_wp2
 go_loopg [3] k (fun kq v3 w' => ∃ (x3_1 : Int), v3 = .int .i64 x3_1 ∧ Aside0 (spec_l3Token.l0 kq a0 x3_1 = some r) ∧ Aside0 (kq ≤ k) ∧ Drawn0 w w')
 case atStart => exact ⟨(0), (by first | rfl | (simp; done) | (simp [*]; done)), H', ⟨Nat.le_refl _⟩, by repeat (first | exact Drawn0.refl _ | apply Drawn0.step)⟩
 case round =>
  clear H'
  try clear c1
  obtain ⟨x3_1, rfl, HA, HK1, ⟨m1, rfl⟩⟩ := hrel
  cases gk with
  | zero => exact absurd HA.out (by simp [spec_l3Token.l0])
  | succ k1 =>
   have H := HA.out
   clear HA
   simp only [spec_l3Token.l0] at H
   by_cases c2 : x3_1 < (a0.size : Int)
   ·rw [if_pos c2] at H
    have c2b0 := decide_eq_true c2
    clear c2
    by_cases c3 : 0 ≤ x3_1
    ·rw [if_pos c3] at H
     have c3b0 := decide_eq_true c3
     clear c3
     replace H := bs H
     obtain ⟨t228, A5, H⟩ := H
     try dsimp only at H
     by_cases c6 : t228 = true
     ·subst c6
      rw [if_pos rfl] at H
      have H' := ak H
      clear H
      have p4 : 0 ≤ (x3_1 : Int) := od
      have q4 : x3_1 < (a0.size : Int) := od
      have hx4 := bt_at a0 x3_1
      replace p4 := eq_true p4
      replace q4 := eq_true q4
      go_wp2_with (first | ((with_reducible refine gc 153 ?_); refine gL 153 Tryz.func153 (some 13) #[.int .u8 (bt a0 x3_1)] ?_; (with_reducible refine (spec_l3TokenByte.calls k1 (bt a0 x3_1) true _ A5.out).mono ?_); rintro e w' ⟨rfl, ⟨nd, rfl⟩⟩; refine ⟨_, rfl, ?_⟩))
      go_roundg k1
      case measure => have := HK1.out; omega
      case rel => exact ⟨(wrap64 (x3_1 + 1)), (by first | rfl | (simp; done) | (simp [*]; done)), H', ⟨by have := HK1.out; omega⟩, by repeat (first | exact Drawn0.refl _ | apply Drawn0.step)⟩
     ·replace c6 := Bool.eq_false_iff.mpr c6
      subst c6
      rw [if_neg ff] at H
      obtain rfl := Option.some.inj H
      have p4 : 0 ≤ (x3_1 : Int) := od
      have q4 : x3_1 < (a0.size : Int) := od
      have hx4 := bt_at a0 x3_1
      replace p4 := eq_true p4
      replace q4 := eq_true q4
      go_wp2_with (first | ((with_reducible refine gc 153 ?_); refine gL 153 Tryz.func153 (some 13) #[.int .u8 (bt a0 x3_1)] ?_; (with_reducible refine (spec_l3TokenByte.calls k1 (bt a0 x3_1) false _ A5.out).mono ?_); rintro e w' ⟨rfl, ⟨nd, rfl⟩⟩; refine ⟨_, rfl, ?_⟩))
      go_ret
      exact ⟨by first | rfl | (simp; done) | (simp [*]; done) | (simp only [Ending.returned.injEq, Value.tuple.injEq, i64_w]; rfl) | (simp [i64_w]; rfl), by repeat (first | exact Drawn0.refl _ | apply Drawn0.step)⟩
    ·rw [if_neg c3] at H
     exact absurd H (by simp)
   ·rw [if_neg c2] at H
    have c2b0 := decide_eq_false c2
    clear c2
    replace H := bs H
    obtain ⟨t229, A7, H⟩ := H
    try dsimp only at H
    obtain rfl := Option.some.inj H
    go_wp2_with (first | ((with_reducible refine gc 37 ?_); refine gL 37 Tryz.func37 (some 17) #[.int .i64 (a0.size : Int), .int .i64 1, .int .i64 60] ?_; (with_reducible refine (spec_l1In.calls (a0.size : Int) 1 60 t229 _ A7.out).mono ?_); rintro e w' ⟨rfl, ⟨nd, rfl⟩⟩; refine ⟨_, rfl, ?_⟩))
    go_ret
    exact ⟨by first | rfl | (simp; done) | (simp [*]; done) | (simp only [Ending.returned.injEq, Value.tuple.injEq, i64_w]; rfl) | (simp [i64_w]; rfl), by repeat (first | exact Drawn0.refl _ | apply Drawn0.step)⟩

end Go.Proofs.YtlmnmakkojgfnaaGreatDoor.PFnExactKeptFor
