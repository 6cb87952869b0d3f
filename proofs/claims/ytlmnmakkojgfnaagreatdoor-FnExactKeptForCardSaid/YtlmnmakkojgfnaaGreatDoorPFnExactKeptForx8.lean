-- written by a program of this session (wip/tool)
import Derived.Test.YtlmnmakkojgfnaaGreatDoorPFnExactKeptForx0
import Derived.Test.YtlmnmakkojgfnaaGreatDoorVOwn0
import Derived.Test.YtlmnmakkojgfnaaGreatDoorVOwnOpen
import Derived.WalkKit
import Derived.BigCall
import Derived.Test.YtlmnmakkojgfnaaGreatDoorOwnTr
import Derived.Test.YtlmnmakkojgfnaaGreatDoorVOwnShort
import Derived.Test.YtlmnmakkojgfnaaGreatDoorOwnSq
import Derived.Test.YtlmnmakkojgfnaaGreatDoorOwnIt
namespace Go.Proofs.YtlmnmakkojgfnaaGreatDoor.PFnExactKeptFor
open Go.RowKit Go.Proofs.YtlmnmakkojgfnaaGreatDoorW.PrintWords Go.Proofs.YtlmnmakkojgfnaaGreatDoorW.PrintLast Go.Proofs.YtlmnmakkojgfnaaGreatDoorW.PrintMore Go.Shelf Go.Proofs.YtlmnmakkojgfnaaGreatDoorOwn
attribute [local go_sem] max2_int min2_int max_two min_two max_three min_three max_four min_four   -- for this text's walks alone
set_option linter.unusedVariables false
set_option linter.unusedSimpArgs false

/-! ### spec_l3Trim: function 171 -/
mutual
def spec_l3Trim.j1 : Nat → ByteArray → Option (ByteArray)
 | 0, _ => none
 | k + 1, x0 => spec_l3Trim.l1 k x0
def spec_l3Trim.l1 : Nat → ByteArray → Option (ByteArray)
 | 0, _ => none
 | k + 1, x0 => if (x0.size : Int) > 0 then (if 0 ≤ (wrap64 ((x0.size : Int) - 1)) then (if (wrap64 ((x0.size : Int) - 1)) < (x0.size : Int) then (if (bt x0 (wrap64 ((x0.size : Int) - 1))) = 32 then (if (wrap64 ((x0.size : Int) - 1)) ≤ (x0.size : Int) then (spec_l3Trim.l1 k (x0.extract 0 ((wrap64 ((x0.size : Int) - 1)) : Int).toNat)) else (none)) else (some x0)) else (none)) else (none)) else (some x0)
def spec_l3Trim.l0 : Nat → ByteArray → Option (ByteArray)
 | 0, _ => none
 | k + 1, x0 => if (x0.size : Int) > 0 then (if 0 < (x0.size : Int) then (if (bt x0 0) = 32 then (if 1 ≤ (x0.size : Int) then (spec_l3Trim.l0 k (x0.extract 1 x0.size)) else (none)) else (spec_l3Trim.j1 k x0)) else (none)) else (spec_l3Trim.j1 k x0)
end
def spec_l3Trim.f (k : Nat) (a0 : ByteArray) : Option (ByteArray) := spec_l3Trim.l0 k a0
theorem spec_l3Trim.mono_l : ∀ k, (∀ y0, LeO (spec_l3Trim.j1 k y0) (spec_l3Trim.j1 (k + 1) y0)) ∧ (∀ y0, LeO (spec_l3Trim.l1 k y0) (spec_l3Trim.l1 (k + 1) y0)) ∧ (∀ y0, LeO (spec_l3Trim.l0 k y0) (spec_l3Trim.l0 (k + 1) y0))
 | 0 => ⟨fun _ r h => by simp [spec_l3Trim.j1] at h, fun _ r h => by simp [spec_l3Trim.l1] at h, fun _ r h => by simp [spec_l3Trim.l0] at h⟩
 | k + 1 => by
  obtain ⟨ih0, ih1, ih2⟩ := spec_l3Trim.mono_l k
  refine ⟨?_, ?_, ?_⟩
  ·intro y0
   unfold spec_l3Trim.j1
   repeat' with_reducible first | exact ih0 _ | exact ih1 _ | exact ih2 _ | exact LeO.refl _ | exact LeO.none _ | refine LeO.ite ?_ ?_ | refine LeO.bind ?_ (fun _ => ?_)
  ·intro y0
   unfold spec_l3Trim.l1
   repeat' with_reducible first | exact ih0 _ | exact ih1 _ | exact ih2 _ | exact LeO.refl _ | exact LeO.none _ | refine LeO.ite ?_ ?_ | refine LeO.bind ?_ (fun _ => ?_)
  ·intro y0
   unfold spec_l3Trim.l0
   repeat' with_reducible first | exact ih0 _ | exact ih1 _ | exact ih2 _ | exact LeO.refl _ | exact LeO.none _ | refine LeO.ite ?_ ?_ | refine LeO.bind ?_ (fun _ => ?_)
theorem spec_l3Trim.mono : ∀ a0 k, LeO (spec_l3Trim.f k a0) (spec_l3Trim.f (k + 1) a0) := by
 intro a0 k
 obtain ⟨ih0, ih1, ih2⟩ := spec_l3Trim.mono_l k
 unfold spec_l3Trim.f
 repeat' with_reducible first | exact ih0 _ | exact ih1 _ | exact ih2 _ | exact LeO.refl _ | exact LeO.none _ | refine LeO.ite ?_ ?_ | refine LeO.bind ?_ (fun _ => ?_)
set_option maxHeartbeats 8000000 in
set_option maxRecDepth 100000 in
theorem spec_l3Trim.calls (k : Nat) (a0 : ByteArray) (r : ByteArray) (w : World) (h : spec_l3Trim.f k a0 = some r) :
  Calls Tryz.prog 171 #[.string a0] w fun e w' => e = .returned (.string r) ∧ Drawn0 w w' := by
 have H : (spec_l3Trim.l0 k a0) = some r := h
 clear h
 have HC2 := ak H
 clear H
 go_enter Tryz.func171, Tryz.ntmps171
 go_upto_block 0 with (fail)
 go_cut [0] (fun v0 wc => ∃ (kq : Nat) (x0_1 : ByteArray), v0 = .string x0_1 ∧ Aside0 (spec_l3Trim.j1 kq x0_1 = some r) ∧ Aside0 (kq ≤ k) ∧ Drawn0 w wc)
 case first =>
  have H := HC2.out
  clear HC2
  have H' := ak H
  clear H
  go_wp2
  go_loopg [0] k (fun kq v0 w' => ∃ (x0_1 : ByteArray), v0 = .string x0_1 ∧ Aside0 (spec_l3Trim.l0 kq x0_1 = some r) ∧ Aside0 (kq ≤ k) ∧ Drawn0 w w')
  case atStart => exact ⟨(a0), (by first | rfl | (simp; done) | (simp [*]; done)), H', ⟨Nat.le_refl _⟩, by repeat (first | exact Drawn0.refl _ | apply Drawn0.step)⟩
  case round =>
   clear H'
   try clear c1
   try clear p2
   obtain ⟨x0_1, rfl, HA, HK1, ⟨m1, rfl⟩⟩ := hrel
   cases gk with
   | zero => exact absurd HA.out (by simp [spec_l3Trim.l0])
   | succ k1 =>
    have H := HA.out
    clear HA
    simp only [spec_l3Trim.l0] at H
    by_cases c3 : (x0_1.size : Int) > 0
    ·rw [if_pos c3] at H
     have c3b0 : decide (0 < (x0_1.size : Int)) = true := decide_eq_true c3
     have c3b1 : decide (0 < x0_1.size) = true := decide_eq_true (by omega)
     clear c3
     (first | rw [c3b0] | (simp only [i64_w, i32_w]; rw [c3b0]) | skip)
     by_cases c4 : 0 < (x0_1.size : Int)
     ·rw [if_pos c4] at H
      have c4b0 := decide_eq_true c4
      have c4b1 : decide (0 < x0_1.size) = true := decide_eq_true (by omega)
      clear c4
      by_cases c6 : (bt x0_1 0) = 32
      ·rw [if_pos c6] at H
       have c6b0 : ((bt x0_1 0) == 32) = true := beq_iff_eq.mpr c6
       have c6b1 : ((bt x0_1 0) != 32) = false := bne_eq_false_iff_eq.mpr c6
       clear c6
       by_cases c7 : 1 ≤ (x0_1.size : Int)
       ·rw [if_pos c7] at H
        have c7b0 := eq_true c7
        have c7b1 := decide_eq_true c7
        clear c7
        have H' := ak H
        clear H
        have p5 : 0 ≤ (0 : Int) := (by omega)
        have q5 : 0 < x0_1.size := (by have : (0 : Int) < (x0_1.size : Int) := od; omega)
        have hx5 : ∀ h : 0 < x0_1.size, ((x0_1[0]'h).toNat : Int) = bt x0_1 0 := bt_at x0_1 0
        clear p5
        have qi5 : (0 < (x0_1.size : Int)) = True := eq_true (od)
        replace q5 := eq_true q5
        go_wp2
        go_roundg k1
        case measure => have := HK1.out; omega
        case rel => exact ⟨(x0_1.extract 1 x0_1.size), (by first | rfl | (simp; done) | (simp [*]; done)), H', ⟨by have := HK1.out; omega⟩, by repeat (first | exact Drawn0.refl _ | apply Drawn0.step)⟩
       ·rw [if_neg c7] at H
        exact absurd H (by simp)
      ·rw [if_neg c6] at H
       have c6b0 : ((bt x0_1 0) == 32) = false := beq_eq_false_iff_ne.mpr c6
       have c6b1 : ((bt x0_1 0) != 32) = true := bne_iff_ne.mpr c6
       have H' := ak H
       clear H
       have p5 : 0 ≤ (0 : Int) := (by omega)
       have q5 : 0 < x0_1.size := (by have : (0 : Int) < (x0_1.size : Int) := od; omega)
       have hx5 : ∀ h : 0 < x0_1.size, ((x0_1[0]'h).toNat : Int) = bt x0_1 0 := bt_at x0_1 0
       clear p5
       have qi5 : (0 < (x0_1.size : Int)) = True := eq_true (od)
       replace q5 := eq_true q5
       go_wp2
       go_meet
       case rel => exact ⟨_, (x0_1), (by first | rfl | (simp; done) | (simp [*]; done)), H', ⟨by have := HK1.out; first | omega | exact Nat.le_refl _⟩, by repeat (first | exact Drawn0.refl _ | apply Drawn0.step)⟩
     ·rw [if_neg c4] at H
      exact absurd H (by simp)
    ·rw [if_neg c3] at H
     have c3b0 : decide (0 < (x0_1.size : Int)) = false := decide_eq_false c3
     have c3b1 : decide (0 < x0_1.size) = false := decide_eq_false (by omega)
     clear c3
     (first | rw [c3b0] | (simp only [i64_w, i32_w]; rw [c3b0]) | skip)
     have H' := ak H
     clear H
     go_wp2
     go_meet
     case rel => exact ⟨_, (x0_1), (by first | rfl | (simp; done) | (simp [*]; done)), H', ⟨by have := HK1.out; first | omega | exact Nat.le_refl _⟩, by repeat (first | exact Drawn0.refl _ | apply Drawn0.step)⟩
 case rest =>
  clear HC2
  try clear c1
  try clear p2
  try clear c3
  try clear c3b0
  try clear c3b1
  try clear c4
  try clear c4b0
  try clear c4b1
  try clear p5
  try clear q5
  try clear hx5
  try clear qi5
  try clear c6
  try clear c6b0
  try clear c6b1
  try clear c7
  try clear c7b0
  try clear c7b1
  try clear p2
  try clear p5
  try clear q5
  obtain ⟨kq, x0_1, rfl, HA, HJ1, ⟨mc1, rfl⟩⟩ := hcut
  cases kq with
  | zero => exact absurd HA.out (by simp [spec_l3Trim.j1])
  | succ kj1 =>
   have H := HA.out
   clear HA
   simp only [spec_l3Trim.j1] at H
   have H' := ak H
   clear H
   go_wp2
   go_loopg [0] kj1 (fun kq v0 w' => ∃ (x0_2 : ByteArray), v0 = .string x0_2 ∧ Aside0 (spec_l3Trim.l1 kq x0_2 = some r) ∧ Aside0 (kq ≤ kj1) ∧ Drawn0 w w')
   case atStart => exact ⟨(x0_1), (by first | rfl | (simp; done) | (simp [*]; done)), H', ⟨Nat.le_refl _⟩, by repeat (first | exact Drawn0.refl _ | apply Drawn0.step)⟩
   case round =>
    clear H'
    try clear c1
    try clear p2
    try clear c3
    try clear c3b0
    try clear c3b1
    try clear c4
    try clear c4b0
    try clear c4b1
    try clear p5
    try clear q5
    try clear hx5
    try clear qi5
    try clear c6
    try clear c6b0
    try clear c6b1
    try clear c7
    try clear c7b0
    try clear c7b1
    try clear p2
    try clear p5
    try clear q5
    obtain ⟨x0_2, rfl, HA, HK2, ⟨m2, rfl⟩⟩ := hrel
    cases gk with
    | zero => exact absurd HA.out (by simp [spec_l3Trim.l1])
    | succ k2 =>
     have H := HA.out
     clear HA
     simp only [spec_l3Trim.l1] at H
     by_cases c8 : (x0_2.size : Int) > 0
     ·rw [if_pos c8] at H
      have c8b0 : decide (0 < (x0_2.size : Int)) = true := decide_eq_true c8
      have c8b1 : decide (0 < x0_2.size) = true := decide_eq_true (by omega)
      clear c8
      obtain ⟨ji9, hji9⟩ : ∃ j_ : Int, (wrap64 ((x0_2.size : Int) - 1)) = j_ := ⟨_, rfl⟩
      replace H : (if 0 ≤ (ji9) then (if (ji9) < (x0_2.size : Int) then (if (bt x0_2 (ji9)) = 32 then (if (ji9) ≤ (x0_2.size : Int) then (spec_l3Trim.l1 k2 (x0_2.extract 0 ((ji9) : Int).toNat)) else (none)) else (some x0_2)) else (none)) else (none)) = some r := by first | (rw [hji9] at H; exact H) | (simp only [hji9] at H ⊢; exact H)
      have hji9w : (IntKind.i64.wrap ((x0_2.size : Int) - 1)) = ji9 := (i64_w _).trans hji9
      by_cases c10 : 0 ≤ (ji9)
      ·rw [if_pos c10] at H
       have c10b0 := decide_eq_true c10
       clear c10
       by_cases c11 : (ji9) < (x0_2.size : Int)
       ·rw [if_pos c11] at H
        have c11b0 := decide_eq_true c11
        clear c11
        by_cases c13 : (bt x0_2 (ji9)) = 32
        ·rw [if_pos c13] at H
         have c13b0 : ((bt x0_2 (ji9)) == 32) = true := beq_iff_eq.mpr c13
         have c13b1 : ((bt x0_2 (ji9)) != 32) = false := bne_eq_false_iff_eq.mpr c13
         clear c13
         have c14b0 := eq_true (od : 0 ≤ (ji9))
         by_cases c15 : (ji9) ≤ (x0_2.size : Int)
         ·rw [if_pos c15] at H
          have c15b0 := eq_true c15
          have c15b1 := decide_eq_true c15
          clear c15
          have H' := ak H
          clear H
          have p12 : 0 ≤ ((ji9) : Int) := od
          have q12 : (ji9) < (x0_2.size : Int) := od
          have hx12 := bt_at x0_2 (ji9)
          replace p12 := eq_true p12
          replace q12 := eq_true q12
          go_wp2
          go_roundg k2
          case measure => have := HJ1.out; have := HK2.out; omega
          case rel => exact ⟨(x0_2.extract 0 ((ji9) : Int).toNat), (by first | rfl | (simp; done) | (simp only [← hji9] <;> (first | rfl | simp)) | (simp [*]; done)), H', ⟨by have := HJ1.out; have := HK2.out; omega⟩, by repeat (first | exact Drawn0.refl _ | apply Drawn0.step)⟩
         ·rw [if_neg c15] at H
          exact absurd H (by simp)
        ·rw [if_neg c13] at H
         have c13b0 : ((bt x0_2 (ji9)) == 32) = false := beq_eq_false_iff_ne.mpr c13
         have c13b1 : ((bt x0_2 (ji9)) != 32) = true := bne_iff_ne.mpr c13
         obtain rfl := Option.some.inj H
         have p12 : 0 ≤ ((ji9) : Int) := od
         have q12 : (ji9) < (x0_2.size : Int) := od
         have hx12 := bt_at x0_2 (ji9)
         replace p12 := eq_true p12
         replace q12 := eq_true q12
         go_wp2
         go_ret
         exact ⟨by first | rfl | (simp; done) | (simp only [← hji9] <;> (first | rfl | simp)) | (simp [*]; done), by repeat (first | exact Drawn0.refl _ | apply Drawn0.step)⟩
       ·rw [if_neg c11] at H
        exact absurd H (by simp)
      ·rw [if_neg c10] at H
       exact absurd H (by simp)
     ·rw [if_neg c8] at H
      have c8b0 : decide (0 < (x0_2.size : Int)) = false := decide_eq_false c8
      have c8b1 : decide (0 < x0_2.size) = false := decide_eq_false (by omega)
      clear c8
      obtain rfl := Option.some.inj H
      go_wp2
      go_ret
      exact ⟨by first | rfl | (simp; done) | (simp [*]; done) | (simp only [Ending.returned.injEq, Value.tuple.injEq, i64_w]; rfl) | (simp [i64_w]; rfl), by repeat (first | exact Drawn0.refl _ | apply Drawn0.step)⟩

/-! ### spec_l3List: function 136 -/
mutual
def spec_l3List.l0 : Nat → ByteArray → List ByteArray → Int → Bool → Int → Option (List ByteArray × Bool)
 | 0, _, _, _, _, _ => none
 | k + 1, x0, x4, x5, x6, x7 => if x7 ≤ (x0.size : Int) then (if x7 = (x0.size : Int) then (spec_l3List.j1 k x0 x4 x5 x6 x7 true) else (if 0 ≤ x7 then (if x7 < (x0.size : Int) then (if (bt x0 x7) = 44 then (spec_l3List.j1 k x0 x4 x5 x6 x7 (!x6)) else (spec_l3List.j1 k x0 x4 x5 x6 x7 false)) else (none)) else (none))) else (some (x4, !x6))
def spec_l3List.j1 : Nat → ByteArray → List ByteArray → Int → Bool → Int → Bool → Option (List ByteArray × Bool)
 | 0, _, _, _, _, _, _ => none
 | k + 1, x0, x4, x5, x6, x7, x28 => if x28 = true then (if 0 ≤ x5 then (if x5 ≤ x7 then (if x7 ≤ (x0.size : Int) then ((spec_l3Trim.f k (x0.extract (x5 : Int).toNat (x7 : Int).toNat)).bind fun t249 => (if t249.toList = ([] : List UInt8) then (spec_l3List.l0 k x0 x4 (wrap64 (x7 + 1)) x6 (wrap64 (x7 + 1))) else (if x4.length < 8796093022208 then (spec_l3List.l0 k x0 (x4 ++ [t249]) (wrap64 (x7 + 1)) x6 (wrap64 (x7 + 1))) else (none)))) else (none)) else (none)) else (none)) else (if 0 ≤ x7 then (if x7 < (x0.size : Int) then (if (bt x0 x7) = 34 then (spec_l3List.j2 k x0 x4 x5 (!x6) x7) else (spec_l3List.j2 k x0 x4 x5 x6 x7)) else (none)) else (none))
def spec_l3List.j2 : Nat → ByteArray → List ByteArray → Int → Bool → Int → Option (List ByteArray × Bool)
 | 0, _, _, _, _, _ => none
 | k + 1, x0, x4, x5, x6, x7 => if 0 ≤ x7 then (if x7 < (x0.size : Int) then (if (bt x0 x7) = 92 then (spec_l3List.j3 k x0 x4 x5 x6 x7 x6) else (spec_l3List.j3 k x0 x4 x5 x6 x7 false)) else (none)) else (none)
def spec_l3List.j3 : Nat → ByteArray → List ByteArray → Int → Bool → Int → Bool → Option (List ByteArray × Bool)
 | 0, _, _, _, _, _, _ => none
 | k + 1, x0, x4, x5, x6, x7, x54 => if x54 = true then (if (wrap64 (x7 + 1)) = (x0.size : Int) then (some (([] : List ByteArray), false)) else (spec_l3List.l0 k x0 x4 x5 x6 (wrap64 ((wrap64 (x7 + 1)) + 1)))) else (spec_l3List.l0 k x0 x4 x5 x6 (wrap64 (x7 + 1)))
end
def spec_l3List.f (k : Nat) (a0 : ByteArray) : Option (List ByteArray × Bool) := spec_l3List.l0 k a0 ([] : List ByteArray) 0 false 0
theorem spec_l3List.mono_l : ∀ k, (∀ y0 y1 y2 y3 y4, LeO (spec_l3List.l0 k y0 y1 y2 y3 y4) (spec_l3List.l0 (k + 1) y0 y1 y2 y3 y4)) ∧ (∀ y0 y1 y2 y3 y4 y5, LeO (spec_l3List.j1 k y0 y1 y2 y3 y4 y5) (spec_l3List.j1 (k + 1) y0 y1 y2 y3 y4 y5)) ∧ (∀ y0 y1 y2 y3 y4, LeO (spec_l3List.j2 k y0 y1 y2 y3 y4) (spec_l3List.j2 (k + 1) y0 y1 y2 y3 y4)) ∧ (∀ y0 y1 y2 y3 y4 y5, LeO (spec_l3List.j3 k y0 y1 y2 y3 y4 y5) (spec_l3List.j3 (k + 1) y0 y1 y2 y3 y4 y5))
 | 0 => ⟨fun _ _ _ _ _ r h => by simp [spec_l3List.l0] at h, fun _ _ _ _ _ _ r h => by simp [spec_l3List.j1] at h, fun _ _ _ _ _ r h => by simp [spec_l3List.j2] at h, fun _ _ _ _ _ _ r h => by simp [spec_l3List.j3] at h⟩
 | k + 1 => by
  obtain ⟨ih0, ih1, ih2, ih3⟩ := spec_l3List.mono_l k
  refine ⟨?_, ?_, ?_, ?_⟩
  ·intro y0 y1 y2 y3 y4
   unfold spec_l3List.l0
   repeat' with_reducible first | exact ih0 _ _ _ _ _ | exact ih1 _ _ _ _ _ _ | exact ih2 _ _ _ _ _ | exact ih3 _ _ _ _ _ _ | exact spec_l3Trim.mono _ _ | exact LeO.refl _ | exact LeO.none _ | refine LeO.ite ?_ ?_ | refine LeO.bind ?_ (fun _ => ?_)
  ·intro y0 y1 y2 y3 y4 y5
   unfold spec_l3List.j1
   repeat' with_reducible first | exact ih0 _ _ _ _ _ | exact ih1 _ _ _ _ _ _ | exact ih2 _ _ _ _ _ | exact ih3 _ _ _ _ _ _ | exact spec_l3Trim.mono _ _ | exact LeO.refl _ | exact LeO.none _ | refine LeO.ite ?_ ?_ | refine LeO.bind ?_ (fun _ => ?_)
  ·intro y0 y1 y2 y3 y4
   unfold spec_l3List.j2
   repeat' with_reducible first | exact ih0 _ _ _ _ _ | exact ih1 _ _ _ _ _ _ | exact ih2 _ _ _ _ _ | exact ih3 _ _ _ _ _ _ | exact spec_l3Trim.mono _ _ | exact LeO.refl _ | exact LeO.none _ | refine LeO.ite ?_ ?_ | refine LeO.bind ?_ (fun _ => ?_)
  ·intro y0 y1 y2 y3 y4 y5
   unfold spec_l3List.j3
   repeat' with_reducible first | exact ih0 _ _ _ _ _ | exact ih1 _ _ _ _ _ _ | exact ih2 _ _ _ _ _ | exact ih3 _ _ _ _ _ _ | exact spec_l3Trim.mono _ _ | exact LeO.refl _ | exact LeO.none _ | refine LeO.ite ?_ ?_ | refine LeO.bind ?_ (fun _ => ?_)
theorem spec_l3List.mono : ∀ a0 k, LeO (spec_l3List.f k a0) (spec_l3List.f (k + 1) a0) := by
 intro a0 k
 obtain ⟨ih0, ih1, ih2, ih3⟩ := spec_l3List.mono_l k
 unfold spec_l3List.f
 repeat' with_reducible first | exact ih0 _ _ _ _ _ | exact ih1 _ _ _ _ _ _ | exact ih2 _ _ _ _ _ | exact ih3 _ _ _ _ _ _ | exact spec_l3Trim.mono _ _ | exact LeO.refl _ | exact LeO.none _ | refine LeO.ite ?_ ?_ | refine LeO.bind ?_ (fun _ => ?_)
set_option maxHeartbeats 8000000 in
set_option maxRecDepth 100000 in
theorem spec_l3List.calls (k : Nat) (a0 : ByteArray) (r1 : List ByteArray) (r2 : Bool) (w : World) (h : spec_l3List.f k a0 = some (r1, r2)) :
  Calls Tryz.prog 136 #[.string a0] w fun e w' => ∃ v0_ : Value, e = .returned (.tuple #[v0_, .bool r2]) ∧ Kd.R Kd.string 9 w' w.heap.size (fun _ => True) v0_ r1 ∧ Below w.heap.size w w' := by
 have HB := ak (Below.refl w.heap.size w)
 have H : (spec_l3List.l0 k a0 ([] : List ByteArray) 0 false 0) = some (r1, r2) := h
 clear h
 have H' := ak H
 clear H
 go_enter Tryz.func136, Tryz.ntmps136
 go_wp2
 go_loopg [4, 5, 6, 7] k (fun kq v4 v5 v6 v7 w' => ∃ (x4_1 : List ByteArray) (x5_1 : Int) (x6_1 : Bool) (x7_1 : Int), v5 = .int .i64 x5_1 ∧ v6 = .bool x6_1 ∧ v7 = .int .i64 x7_1 ∧ Aside0 (spec_l3List.l0 kq a0 x4_1 x5_1 x6_1 x7_1 = some (r1, r2)) ∧ Aside0 (kq ≤ k) ∧ Aside0 (Kd.R Kd.string 9 w' w.heap.size (fun _ => True) v4 x4_1) ∧ Aside0 (Below w.heap.size w w'))
 case atStart => exact ⟨(([] : List ByteArray)), (0), (false), (0), (by first | rfl | (simp; done) | (simp [*]; done)), (by first | rfl | (simp; done) | (simp [*]; done)), (by first | rfl | (simp; done) | (simp [*]; done)), H', ⟨Nat.le_refl _⟩, ⟨by first | exact Kd.R_nil _ _ _ _ _ | exact Kd.N_nil _ _ _ _ _ | exact Kd.V_nil _ _ _ _ _ | exact Kd.Q_nil _ _ _ _ _ | exact Kd.S_nil _ _ _ _ _⟩, ⟨bl HB.out⟩⟩
 case round =>
  clear H'
  try clear c1
  obtain ⟨x4_1, x5_1, x6_1, x7_1, rfl, rfl, rfl, HA, HK1, HO_4, HB⟩ := hrel
  cases gk with
  | zero => exact absurd HA.out (by simp [spec_l3List.l0])
  | succ k1 =>
   have H := HA.out
   clear HA
   simp only [spec_l3List.l0] at H
   by_cases c2 : x7_1 ≤ (a0.size : Int)
   ·rw [if_pos c2] at H
    have c2b0 := decide_eq_true c2
    clear c2
    have HC3 := ak H
    clear H
    go_upto_region 7 with (fail)
    go_cut [28] (fun v28 wc => ∃ (kq : Nat) (x28_2 : Bool), v28 = .bool x28_2 ∧ Aside0 (spec_l3List.j1 kq a0 x4_1 x5_1 x6_1 x7_1 x28_2 = some (r1, r2)) ∧ Aside0 (kq ≤ k1) ∧ Aside0 (Kd.R Kd.string 9 wc w.heap.size (fun _ => True) u4 x4_1) ∧ Aside0 (Below w.heap.size w wc))
    case first =>
     have H := HC3.out
     clear HC3
     by_cases c4 : x7_1 = (a0.size : Int)
     ·rw [if_pos c4] at H
      have c4b0 : (x7_1 == (a0.size : Int)) = true := beq_iff_eq.mpr c4
      have c4b1 : (x7_1 != (a0.size : Int)) = false := bne_eq_false_iff_eq.mpr c4
      clear c4
      (first | rw [c4b0] | (simp only [i64_w, i32_w]; rw [c4b0]) | skip)
      have H' := ak H
      clear H
      go_wp2
      go_meet
      case rel => exact ⟨_, (true), (by first | rfl | (simp; done) | (simp [*]; done)), H', ⟨by have := HK1.out; first | omega | exact Nat.le_refl _⟩, ⟨kr HO_4.out⟩, ⟨bl HB.out⟩⟩
     ·rw [if_neg c4] at H
      have c4b0 : (x7_1 == (a0.size : Int)) = false := beq_eq_false_iff_ne.mpr c4
      have c4b1 : (x7_1 != (a0.size : Int)) = true := bne_iff_ne.mpr c4
      (first | rw [c4b0] | (simp only [i64_w, i32_w]; rw [c4b0]) | skip)
      by_cases c5 : 0 ≤ x7_1
      ·rw [if_pos c5] at H
       have c5b0 := decide_eq_true c5
       clear c5
       by_cases c6 : x7_1 < (a0.size : Int)
       ·rw [if_pos c6] at H
        have c6b0 := decide_eq_true c6
        clear c6
        by_cases c8 : (bt a0 x7_1) = 44
        ·rw [if_pos c8] at H
         have c8b0 : ((bt a0 x7_1) == 44) = true := beq_iff_eq.mpr c8
         have c8b1 : ((bt a0 x7_1) != 44) = false := bne_eq_false_iff_eq.mpr c8
         clear c8
         have H' := ak H
         clear H
         have p7 : 0 ≤ (x7_1 : Int) := od
         have q7 : x7_1 < (a0.size : Int) := od
         have hx7 := bt_at a0 x7_1
         replace p7 := eq_true p7
         replace q7 := eq_true q7
         go_wp2
         go_meet
         case rel => exact ⟨_, (!x6_1), (by first | rfl | (simp; done) | (simp [*]; done)), H', ⟨by have := HK1.out; first | omega | exact Nat.le_refl _⟩, ⟨kr HO_4.out⟩, ⟨bl HB.out⟩⟩
        ·rw [if_neg c8] at H
         have c8b0 : ((bt a0 x7_1) == 44) = false := beq_eq_false_iff_ne.mpr c8
         have c8b1 : ((bt a0 x7_1) != 44) = true := bne_iff_ne.mpr c8
         have H' := ak H
         clear H
         have p7 : 0 ≤ (x7_1 : Int) := od
         have q7 : x7_1 < (a0.size : Int) := od
         have hx7 := bt_at a0 x7_1
         replace p7 := eq_true p7
         replace q7 := eq_true q7
         go_wp2
         go_meet
         case rel => exact ⟨_, (false), (by first | rfl | (simp; done) | (simp [*]; done)), H', ⟨by have := HK1.out; first | omega | exact Nat.le_refl _⟩, ⟨kr HO_4.out⟩, ⟨bl HB.out⟩⟩
       ·rw [if_neg c6] at H
        exact absurd H (by simp)
      ·rw [if_neg c5] at H
       exact absurd H (by simp)
    case rest =>
     clear HC3
     try clear c1
     try clear c2
     try clear c2b0
     try clear p2
     try clear c4
     try clear c4b0
     try clear c4b1
     try clear c5
     try clear c5b0
     try clear c6
     try clear c6b0
     try clear p7
     try clear q7
     try clear hx7
     try clear c8
     try clear c8b0
     try clear c8b1
     try clear p7
     try clear q7
     obtain ⟨kq, x28_2, rfl, HA, HJ2, HO_4, HB⟩ := hcut
     cases kq with
     | zero => exact absurd HA.out (by simp [spec_l3List.j1])
     | succ kj2 =>
      have H := HA.out
      clear HA
      simp only [spec_l3List.j1] at H
      by_cases c9 : x28_2 = true
      ·subst c9
       rw [if_pos rfl] at H
       by_cases c10 : 0 ≤ x5_1
       ·rw [if_pos c10] at H
        have c10b0 := eq_true c10
        have c10b1 := decide_eq_true c10
        clear c10
        by_cases c11 : x5_1 ≤ x7_1
        ·rw [if_pos c11] at H
         have c11b0 := eq_true c11
         have c11b1 := decide_eq_true c11
         clear c11
         by_cases c12 : x7_1 ≤ (a0.size : Int)
         ·rw [if_pos c12] at H
          have c12b0 := eq_true c12
          have c12b1 := decide_eq_true c12
          clear c12
          replace H := bs H
          obtain ⟨t249, A13, H⟩ := H
          try dsimp only at H
          by_cases c14 : t249.toList = ([] : List UInt8)
          ·rw [if_pos c14] at H
           have c14b0 : (t249.toList == ([] : List UInt8)) = true := beq_iff_eq.mpr c14
           have c14b1 : (t249.toList != ([] : List UInt8)) = false := bne_eq_false_iff_eq.mpr c14
           clear c14
           have H' := ak H
           clear H
           go_wp2_with (first | ((with_reducible refine gc 171 ?_); refine gL 171 Tryz.func171 (some 33) #[.string (a0.extract (x5_1 : Int).toNat (x7_1 : Int).toNat)] ?_; (with_reducible refine (spec_l3Trim.calls kj2 (a0.extract (x5_1 : Int).toNat (x7_1 : Int).toNat) t249 _ A13.out).mono ?_); rintro e w' ⟨rfl, ⟨nd, rfl⟩⟩; refine ⟨_, rfl, ?_⟩))
           go_roundg kj2
           case measure => have := HK1.out; have := HJ2.out; omega
           case rel => exact ⟨(x4_1), (wrap64 (x7_1 + 1)), (x6_1), (wrap64 (x7_1 + 1)), (by first | rfl | (simp; done) | (simp [*]; done)), (by first | rfl | (simp; done) | (simp [*]; done)), (by first | rfl | (simp; done) | (simp [*]; done)), H', ⟨by have := HK1.out; have := HJ2.out; omega⟩, ⟨kr HO_4.out⟩, ⟨bl HB.out⟩⟩
          ·rw [if_neg c14] at H
           have c14b0 : (t249.toList == ([] : List UInt8)) = false := beq_eq_false_iff_ne.mpr c14
           have c14b1 : (t249.toList != ([] : List UInt8)) = true := bne_iff_ne.mpr c14
           by_cases c15 : x4_1.length < 8796093022208
           ·rw [if_pos c15] at H
            have LMc15 := ak c15
            clear c15
            obtain ⟨y250, hy250⟩ : ∃ y_ : List ByteArray, y_ = (x4_1 ++ [t249]) := ⟨_, rfl⟩
            replace H : (spec_l3List.l0 kj2 a0 y250 (wrap64 (x7_1 + 1)) x6_1 (wrap64 (x7_1 + 1))) = some (r1, r2) := by first | (rw [hy250]; with_reducible exact H) | (have H2_ := (Option.bind_some _ _).symm.trans H; rw [hy250]; with_reducible exact H2_) | (have H2_ := (Option.bind_some _ _).symm.trans H; with_reducible exact H2_) | with_reducible exact H | (rw [hy250]; exact H) | exact H
            have Ny250 := ak hy250
            clear hy250
            have H' := ak H
            clear H
            go_wp2_with (first | ((with_reducible refine gc 171 ?_); refine gL 171 Tryz.func171 (some 33) #[.string (a0.extract (x5_1 : Int).toNat (x7_1 : Int).toNat)] ?_; (with_reducible refine (spec_l3Trim.calls kj2 (a0.extract (x5_1 : Int).toNat (x7_1 : Int).toNat) t249 _ A13.out).mono ?_); rintro e w' ⟨rfl, ⟨nd, rfl⟩⟩; refine ⟨_, rfl, ?_⟩) | ((with_reducible refine gate_builtin (b := .append) (xs := #[.tmp 36, .tmp 38]) rfl ?_); at_builtin; refine Kd.R_append Kd.string (w0 := w) w.heap.size rfl (.tmp 36) (.tmp 38) 114 9 (.string ⟨#[]⟩) 16 rfl Tryz.underlying114 info9 rfl (by decide) (by omega) u4 x4_1 t249 [.string t249] (fun _ => True) (fun _ => False) rfl rfl ?aP (fun _ hk => hk.elim) ?aF ?aO ?aB ?aS ?aL ?_; (case aP => exact rfl); (case aB => exact (bl HB.out)); (case aF => exact (fun _ _ => trivial)); (case aO => exact (kr HO_4.out)); (case aS => exact (below_size (bl HB.out))); (case aL => have := LMc15.out; omega); intro v251 w16 ho hb hg hat; rw [← Ny250.out] at ho; replace HB := ak hb; have HO252 := ak ho; clear HO_4; clear ho hb hg hat))
            go_roundg kj2
            case measure => have := HK1.out; have := HJ2.out; omega
            case rel => exact ⟨(y250), (wrap64 (x7_1 + 1)), (x6_1), (wrap64 (x7_1 + 1)), (by first | rfl | (simp; done) | (simp [*]; done)), (by first | rfl | (simp; done) | (simp [*]; done)), (by first | rfl | (simp; done) | (simp [*]; done)), H', ⟨by have := HK1.out; have := HJ2.out; omega⟩, ⟨kr HO252.out⟩, ⟨bl HB.out⟩⟩
           ·rw [if_neg c15] at H
            exact absurd H (by simp)
         ·rw [if_neg c12] at H
          exact absurd H (by simp)
        ·rw [if_neg c11] at H
         exact absurd H (by simp)
       ·rw [if_neg c10] at H
        exact absurd H (by simp)
      ·replace c9 := Bool.eq_false_iff.mpr c9
       subst c9
       rw [if_neg ff] at H
       by_cases c17 : 0 ≤ x7_1
       ·rw [if_pos c17] at H
        have c17b0 := decide_eq_true c17
        clear c17
        by_cases c18 : x7_1 < (a0.size : Int)
        ·rw [if_pos c18] at H
         have c18b0 := decide_eq_true c18
         clear c18
         have HC20 := ak H
         clear H
         have p19 : 0 ≤ (x7_1 : Int) := od
         have q19 : x7_1 < (a0.size : Int) := od
         have hx19 := bt_at a0 x7_1
         replace p19 := eq_true p19
         replace q19 := eq_true q19
         go_upto_if 45 with (fail)
         go_cut [6] (fun v6 wc => ∃ (kq : Nat) (x6_19 : Bool), v6 = .bool x6_19 ∧ Aside0 (spec_l3List.j2 kq a0 x4_1 x5_1 x6_19 x7_1 = some (r1, r2)) ∧ Aside0 (kq ≤ kj2) ∧ Aside0 (Kd.R Kd.string 9 wc w.heap.size (fun _ => True) u4 x4_1) ∧ Aside0 (Below w.heap.size w wc))
         case first =>
          have H := HC20.out
          clear HC20
          by_cases c21 : (bt a0 x7_1) = 34
          ·rw [if_pos c21] at H
           have c21b0 : ((bt a0 x7_1) == 34) = true := beq_iff_eq.mpr c21
           have c21b1 : ((bt a0 x7_1) != 34) = false := bne_eq_false_iff_eq.mpr c21
           clear c21
           (first | rw [c21b0] | (simp only [i64_w, i32_w]; rw [c21b0]) | skip)
           have H' := ak H
           clear H
           go_wp2
           go_meet
           case rel => exact ⟨_, (!x6_1), (by first | rfl | (simp; done) | (simp [*]; done)), H', ⟨by have := HK1.out; have := HJ2.out; first | omega | exact Nat.le_refl _⟩, ⟨kr HO_4.out⟩, ⟨bl HB.out⟩⟩
          ·rw [if_neg c21] at H
           have c21b0 : ((bt a0 x7_1) == 34) = false := beq_eq_false_iff_ne.mpr c21
           have c21b1 : ((bt a0 x7_1) != 34) = true := bne_iff_ne.mpr c21
           (first | rw [c21b0] | (simp only [i64_w, i32_w]; rw [c21b0]) | skip)
           have H' := ak H
           clear H
           go_wp2
           go_meet
           case rel => exact ⟨_, (x6_1), (by first | rfl | (simp; done) | (simp [*]; done)), H', ⟨by have := HK1.out; have := HJ2.out; first | omega | exact Nat.le_refl _⟩, ⟨kr HO_4.out⟩, ⟨bl HB.out⟩⟩
         case rest =>
          clear HC20
          try clear c1
          try clear p1
          try clear q1
          try clear hx1
          try clear c2
          try clear c2b0
          try clear p2
          try clear c4
          try clear c4b0
          try clear c4b1
          try clear c5
          try clear c5b0
          try clear c6
          try clear c6b0
          try clear p6
          try clear p7
          try clear q7
          try clear hx7
          try clear c8
          try clear c8b0
          try clear c8b1
          try clear c9
          try clear c10
          try clear c10b0
          try clear c10b1
          try clear c11
          try clear c11b0
          try clear c11b1
          try clear c12
          try clear c12b0
          try clear c12b1
          try clear c13
          try clear c14
          try clear c14b0
          try clear c14b1
          try clear c15
          try clear c17
          try clear c17b0
          try clear c18
          try clear c18b0
          try clear p19
          try clear q19
          try clear hx19
          try clear c21
          try clear c21b0
          try clear c21b1
          try clear p19
          try clear p2
          try clear p7
          try clear q19
          try clear q7
          obtain ⟨kq, x6_19, rfl, HA, HJ19, HO_4, HB⟩ := hcut
          cases kq with
          | zero => exact absurd HA.out (by simp [spec_l3List.j2])
          | succ kj19 =>
           have H := HA.out
           clear HA
           simp only [spec_l3List.j2] at H
           have HC22 := ak H
           clear H
           go_upto_region 14 with (fail)
           go_cut [54] (fun v54 wc => ∃ (kq : Nat) (x54_21 : Bool), v54 = .bool x54_21 ∧ Aside0 (spec_l3List.j3 kq a0 x4_1 x5_1 x6_19 x7_1 x54_21 = some (r1, r2)) ∧ Aside0 (kq ≤ kj19) ∧ Aside0 (Kd.R Kd.string 9 wc w.heap.size (fun _ => True) u4 x4_1) ∧ Aside0 (Below w.heap.size w wc))
           case first =>
            have H := HC22.out
            clear HC22
            by_cases c23 : 0 ≤ x7_1
            ·rw [if_pos c23] at H
             have c23b0 := decide_eq_true c23
             clear c23
             (first | rw [c23b0] | (simp only [i64_w, i32_w]; rw [c23b0]) | skip)
             by_cases c24 : x7_1 < (a0.size : Int)
             ·rw [if_pos c24] at H
              have c24b0 := decide_eq_true c24
              clear c24
              by_cases c26 : (bt a0 x7_1) = 92
              ·rw [if_pos c26] at H
               have c26b0 : ((bt a0 x7_1) == 92) = true := beq_iff_eq.mpr c26
               have c26b1 : ((bt a0 x7_1) != 92) = false := bne_eq_false_iff_eq.mpr c26
               clear c26
               have H' := ak H
               clear H
               have p25 : 0 ≤ (x7_1 : Int) := od
               have q25 : x7_1 < (a0.size : Int) := od
               have hx25 := bt_at a0 x7_1
               replace p25 := eq_true p25
               replace q25 := eq_true q25
               go_wp2
               go_meet
               case rel => exact ⟨_, (x6_19), (by first | rfl | (simp; done) | (simp [*]; done)), H', ⟨by have := HK1.out; have := HJ2.out; have := HJ19.out; first | omega | exact Nat.le_refl _⟩, ⟨kr HO_4.out⟩, ⟨bl HB.out⟩⟩
              ·rw [if_neg c26] at H
               have c26b0 : ((bt a0 x7_1) == 92) = false := beq_eq_false_iff_ne.mpr c26
               have c26b1 : ((bt a0 x7_1) != 92) = true := bne_iff_ne.mpr c26
               have H' := ak H
               clear H
               have p25 : 0 ≤ (x7_1 : Int) := od
               have q25 : x7_1 < (a0.size : Int) := od
               have hx25 := bt_at a0 x7_1
               replace p25 := eq_true p25
               replace q25 := eq_true q25
               go_wp2
               go_meet
               case rel => exact ⟨_, (false), (by first | rfl | (simp; done) | (simp [*]; done)), H', ⟨by have := HK1.out; have := HJ2.out; have := HJ19.out; first | omega | exact Nat.le_refl _⟩, ⟨kr HO_4.out⟩, ⟨bl HB.out⟩⟩
             ·rw [if_neg c24] at H
              exact absurd H (by simp)
            ·rw [if_neg c23] at H
             exact absurd H (by simp)
           case rest =>
            clear HC22
            try clear c1
            try clear p1
            try clear q1
            try clear hx1
            try clear c2
            try clear c2b0
            try clear p2
            try clear q2
            try clear hx2
            try clear c4
            try clear c4b0
            try clear c4b1
            try clear c5
            try clear c5b0
            try clear c6
            try clear c6b0
            try clear p6
            try clear p7
            try clear q7
            try clear hx7
            try clear c8
            try clear c8b0
            try clear c8b1
            try clear c9
            try clear c10
            try clear c10b0
            try clear c10b1
            try clear c11
            try clear c11b0
            try clear c11b1
            try clear c12
            try clear c12b0
            try clear c12b1
            try clear c13
            try clear c14
            try clear c14b0
            try clear c14b1
            try clear c15
            try clear c17
            try clear c17b0
            try clear c18
            try clear c18b0
            try clear p19
            try clear q19
            try clear hx19
            try clear c21
            try clear c21b0
            try clear c21b1
            try clear c23
            try clear c23b0
            try clear c24
            try clear c24b0
            try clear p25
            try clear q25
            try clear hx25
            try clear c26
            try clear c26b0
            try clear c26b1
            try clear p1
            try clear p19
            try clear p2
            try clear p25
            try clear p6
            try clear p7
            try clear q1
            try clear q19
            try clear q25
            try clear q7
            obtain ⟨kq, x54_21, rfl, HA, HJ21, HO_4, HB⟩ := hcut
            cases kq with
            | zero => exact absurd HA.out (by simp [spec_l3List.j3])
            | succ kj21 =>
             have H := HA.out
             clear HA
             simp only [spec_l3List.j3] at H
             by_cases c27 : x54_21 = true
             ·subst c27
              rw [if_pos rfl] at H
              by_cases c28 : (wrap64 (x7_1 + 1)) = (a0.size : Int)
              ·rw [if_pos c28] at H
               have c28b0 : ((wrap64 (x7_1 + 1)) == (a0.size : Int)) = true := beq_iff_eq.mpr c28
               have c28b1 : ((wrap64 (x7_1 + 1)) != (a0.size : Int)) = false := bne_eq_false_iff_eq.mpr c28
               clear c28
               simp only [Option.some.injEq, Prod.mk.injEq] at H
               obtain ⟨rfl, rfl⟩ := H
               go_wp2
               go_ret2
               exact ⟨_, by first | rfl | (simp [errW_none, errW_some] <;> rfl) | (simp [*, errW_none, errW_some] <;> rfl), by first | exact Kd.R_nil _ _ _ _ _ | exact Kd.N_nil _ _ _ _ _ | exact Kd.V_nil _ _ _ _ _ | exact Kd.Q_nil _ _ _ _ _ | exact Kd.S_nil _ _ _ _ _, bl HB.out⟩
              ·rw [if_neg c28] at H
               have c28b0 : ((wrap64 (x7_1 + 1)) == (a0.size : Int)) = false := beq_eq_false_iff_ne.mpr c28
               have c28b1 : ((wrap64 (x7_1 + 1)) != (a0.size : Int)) = true := bne_iff_ne.mpr c28
               have H' := ak H
               clear H
               go_wp2
               go_roundg kj21
               case measure => have := HK1.out; have := HJ2.out; have := HJ19.out; have := HJ21.out; omega
               case rel => exact ⟨(x4_1), (x5_1), (x6_19), (wrap64 ((wrap64 (x7_1 + 1)) + 1)), (by first | rfl | (simp; done) | (simp [*]; done)), (by first | rfl | (simp; done) | (simp [*]; done)), (by first | rfl | (simp; done) | (simp [*]; done)), H', ⟨by have := HK1.out; have := HJ2.out; have := HJ19.out; have := HJ21.out; omega⟩, ⟨kr HO_4.out⟩, ⟨bl HB.out⟩⟩
             ·replace c27 := Bool.eq_false_iff.mpr c27
              subst c27
              rw [if_neg ff] at H
              have H' := ak H
              clear H
              go_wp2
              go_roundg kj21
              case measure => have := HK1.out; have := HJ2.out; have := HJ19.out; have := HJ21.out; omega
              case rel => exact ⟨(x4_1), (x5_1), (x6_19), (wrap64 (x7_1 + 1)), (by first | rfl | (simp; done) | (simp [*]; done)), (by first | rfl | (simp; done) | (simp [*]; done)), (by first | rfl | (simp; done) | (simp [*]; done)), H', ⟨by have := HK1.out; have := HJ2.out; have := HJ19.out; have := HJ21.out; omega⟩, ⟨kr HO_4.out⟩, ⟨bl HB.out⟩⟩
        ·rw [if_neg c18] at H
         exact absurd H (by simp)
       ·rw [if_neg c17] at H
        exact absurd H (by simp)
   ·rw [if_neg c2] at H
    have c2b0 := decide_eq_false c2
    clear c2
    simp only [Option.some.injEq, Prod.mk.injEq] at H
    obtain ⟨rfl, rfl⟩ := H
    go_wp2
    go_ret2
    exact ⟨_, by first | rfl | (simp [errW_none, errW_some] <;> rfl) | (simp [*, errW_none, errW_some] <;> rfl), kr HO_4.out, bl HB.out⟩

end Go.Proofs.YtlmnmakkojgfnaaGreatDoor.PFnExactKeptFor
