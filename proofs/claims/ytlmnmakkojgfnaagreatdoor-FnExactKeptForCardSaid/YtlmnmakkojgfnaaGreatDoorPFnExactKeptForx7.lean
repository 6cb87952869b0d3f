-- written by a program of this session (wip/tool)
import Derived.Test.YtlmnmakkojgfnaaGreatDoorPFnExactKeptForx0
import Derived.Test.YtlmnmakkojgfnaaGreatDoorPFnExactKeptForx6
import Derived.Test.YtlmnmakkojgfnaaGreatDoorVOwn0
import Derived.Test.YtlmnmakkojgfnaaGreatDoorVOwnOpen
import Derived.WalkKit
import Derived.BigCall
import Derived.Test.YtlmnmakkojgfnaaGreatDoorOwnTr
import Derived.Test.YtlmnmakkojgfnaaGreatDoorVOwnShort
import Derived.Test.YtlmnmakkojgfnaaGreatDoorOwnSq
import Derived.Test.YtlmnmakkojgfnaaGreatDoorOwnIt
namespace Go.Proofs.YtlmnmakkojgfnaaGreatDoor.PFnExactKeptFor
open Go.RowKit Go.Proofs.YtlmnmakkojgfnaaGreatDoorW.PrintWords Go.Proofs.YtlmnmakkojgfnaaGreatDoorW.PrintLast Go.Proofs.YtlmnmakkojgfnaaGreatDoorW.PrintMore Go.Shelf Go.Proofs.YtlmnmakkojgfnaaGreatDoorOwn
attribute [local go_sem] max2_int min2_int max_two min_two max_three min_three max_four min_four   -- for this text's walks alone
set_option linter.unusedVariables false
set_option linter.unusedSimpArgs false

/-! ### spec_l3Printed: function 154 -/
def spec_l3Printed.l0 : Nat → ByteArray → Int → Option (Bool)
 | 0, _, _ => none
 | k + 1, x0, x3 => if x3 < (x0.size : Int) then (if 0 ≤ x3 then (if (bt x0 x3) < 32 then (some false) else (if (bt x0 x3) > 126 then (some false) else (spec_l3Printed.l0 k x0 (wrap64 (x3 + 1))))) else (none)) else (some true)
def spec_l3Printed.f (k : Nat) (a0 : ByteArray) : Option (Bool) := spec_l3Printed.l0 k a0 0
theorem spec_l3Printed.mono_l : ∀ k, (∀ y0 y1, LeO (spec_l3Printed.l0 k y0 y1) (spec_l3Printed.l0 (k + 1) y0 y1))
 | 0 => fun _ _ r h => by simp [spec_l3Printed.l0] at h
 | k + 1 => by
  have ih0 := spec_l3Printed.mono_l k
  ·intro y0 y1
   unfold spec_l3Printed.l0
   repeat' with_reducible first | exact ih0 _ _ | exact LeO.refl _ | exact LeO.none _ | refine LeO.ite ?_ ?_ | refine LeO.bind ?_ (fun _ => ?_)
theorem spec_l3Printed.mono : ∀ a0 k, LeO (spec_l3Printed.f k a0) (spec_l3Printed.f (k + 1) a0) := by
 intro a0 k
 have ih0 := spec_l3Printed.mono_l k
 unfold spec_l3Printed.f
 repeat' with_reducible first | exact ih0 _ _ | exact LeO.refl _ | exact LeO.none _ | refine LeO.ite ?_ ?_ | refine LeO.bind ?_ (fun _ => ?_)
set_option maxHeartbeats 8000000 in
set_option maxRecDepth 100000 in
theorem spec_l3Printed.calls (k : Nat) (a0 : ByteArray) (r : Bool) (w : World) (h : spec_l3Printed.f k a0 = some r) :
  Calls Tryz.prog 154 #[.string a0] w fun e w' => e = .returned (.bool r) ∧ Drawn0 w w' := by
 have H : (spec_l3Printed.l0 k a0 0) = some r := h
 clear h
 have H' := ak H
 clear H
 go_enter Tryz.func154, Tryz.ntmps154
 go_wp2
 go_loopg [3] k (fun kq v3 w' => ∃ (x3_1 : Int), v3 = .int .i64 x3_1 ∧ Aside0 (spec_l3Printed.l0 kq a0 x3_1 = some r) ∧ Aside0 (kq ≤ k) ∧ Drawn0 w w')
 case atStart => exact ⟨(0), (by first | rfl | (simp; done) | (simp [*]; done)), H', ⟨Nat.le_refl _⟩, by repeat (first | exact Drawn0.refl _ | apply Drawn0.step)⟩
 case round =>
  clear H'
  try clear c1
  obtain ⟨x3_1, rfl, HA, HK1, ⟨m1, rfl⟩⟩ := hrel
  cases gk with
  | zero => exact absurd HA.out (by simp [spec_l3Printed.l0])
  | succ k1 =>
   have H := HA.out
   clear HA
   simp only [spec_l3Printed.l0] at H
   by_cases c2 : x3_1 < (a0.size : Int)
   ·rw [if_pos c2] at H
    have c2b0 := decide_eq_true c2
    clear c2
    by_cases c3 : 0 ≤ x3_1
    ·rw [if_pos c3] at H
     have c3b0 := decide_eq_true c3
     clear c3
     by_cases c5 : (bt a0 x3_1) < 32
     ·rw [if_pos c5] at H
      have c5b0 := decide_eq_true c5
      clear c5
      obtain rfl := Option.some.inj H
      have p4 : 0 ≤ (x3_1 : Int) := od
      have q4 : x3_1 < (a0.size : Int) := od
      have hx4 := bt_at a0 x3_1
      replace p4 := eq_true p4
      replace q4 := eq_true q4
      go_wp2
      go_ret
      exact ⟨by first | rfl | (simp; done) | (simp [*]; done) | (simp only [Ending.returned.injEq, Value.tuple.injEq, i64_w]; rfl) | (simp [i64_w]; rfl), by repeat (first | exact Drawn0.refl _ | apply Drawn0.step)⟩
     ·rw [if_neg c5] at H
      have c5b0 := decide_eq_false c5
      clear c5
      by_cases c7 : (bt a0 x3_1) > 126
      ·rw [if_pos c7] at H
       have c7b0 : decide (126 < (bt a0 x3_1)) = true := decide_eq_true c7
       clear c7
       obtain rfl := Option.some.inj H
       have p4 : 0 ≤ (x3_1 : Int) := od
       have q4 : x3_1 < (a0.size : Int) := od
       have hx4 := bt_at a0 x3_1
       replace p4 := eq_true p4
       replace q4 := eq_true q4
       have p6 : 0 ≤ (x3_1 : Int) := od
       have q6 : x3_1 < (a0.size : Int) := od
       have hx6 := bt_at a0 x3_1
       replace p6 := eq_true p6
       replace q6 := eq_true q6
       go_wp2
       go_ret
       exact ⟨by first | rfl | (simp; done) | (simp [*]; done) | (simp only [Ending.returned.injEq, Value.tuple.injEq, i64_w]; rfl) | (simp [i64_w]; rfl), by repeat (first | exact Drawn0.refl _ | apply Drawn0.step)⟩
      ·rw [if_neg c7] at H
       have c7b0 : decide (126 < (bt a0 x3_1)) = false := decide_eq_false c7
       clear c7
       have H' := ak H
       clear H
       have p4 : 0 ≤ (x3_1 : Int) := od
       have q4 : x3_1 < (a0.size : Int) := od
       have hx4 := bt_at a0 x3_1
       replace p4 := eq_true p4
       replace q4 := eq_true q4
       have p6 : 0 ≤ (x3_1 : Int) := od
       have q6 : x3_1 < (a0.size : Int) := od
       have hx6 := bt_at a0 x3_1
       replace p6 := eq_true p6
       replace q6 := eq_true q6
       go_wp2
       go_roundg k1
       case measure => have := HK1.out; omega
       case rel => exact ⟨(wrap64 (x3_1 + 1)), (by first | rfl | (simp; done) | (simp [*]; done)), H', ⟨by have := HK1.out; omega⟩, by repeat (first | exact Drawn0.refl _ | apply Drawn0.step)⟩
    ·rw [if_neg c3] at H
     exact absurd H (by simp)
   ·rw [if_neg c2] at H
    have c2b0 := decide_eq_false c2
    clear c2
    obtain rfl := Option.some.inj H
    go_wp2
    go_ret
    exact ⟨by first | rfl | (simp; done) | (simp [*]; done) | (simp only [Ending.returned.injEq, Value.tuple.injEq, i64_w]; rfl) | (simp [i64_w]; rfl), by repeat (first | exact Drawn0.refl _ | apply Drawn0.step)⟩

/-! ### spec_GoodField: function 108 -/
def spec_GoodField.f (k : Nat) (a0_0 : ByteArray) (a0_1 : ByteArray) : Option (Bool) := (spec_l3Token.f k a0_0).bind fun t231 => (if t231 = true then ((spec_l3Printed.f k a0_1).bind fun t232 => (if t232 = true then (if (a0_1.size : Int) ≤ 300 then (if (a0_1.size : Int) = 0 then (some true) else (if 0 < (a0_1.size : Int) then (if (bt a0_1 0) = 32 then (some false) else (if 0 ≤ (wrap64 ((a0_1.size : Int) - 1)) then (if (wrap64 ((a0_1.size : Int) - 1)) < (a0_1.size : Int) then (some ((bt a0_1 (wrap64 ((a0_1.size : Int) - 1))) != 32)) else (none)) else (none))) else (none))) else (some false)) else (some false))) else (some false))
theorem spec_GoodField.mono : ∀ a0 a1 k, LeO (spec_GoodField.f k a0 a1) (spec_GoodField.f (k + 1) a0 a1) := by
 intro a0 a1 k
 unfold spec_GoodField.f
 repeat' with_reducible first | exact spec_l3Printed.mono _ _ | exact spec_l3Token.mono _ _ | exact LeO.refl _ | exact LeO.none _ | refine LeO.ite ?_ ?_ | refine LeO.bind ?_ (fun _ => ?_)
set_option maxHeartbeats 8000000 in
set_option maxRecDepth 100000 in
theorem spec_GoodField.calls (k : Nat) (a0_0 : ByteArray) (a0_1 : ByteArray) (r : Bool) (w : World) (h : spec_GoodField.f k a0_0 a0_1 = some r) :
  Calls Tryz.prog 108 #[.agg #[.string a0_0, .string a0_1]] w fun e w' => e = .returned (.bool r) ∧ Below w.heap.size w w' := by
 have hu105 := Tryz.underlying105
 have HB := ak (Below.refl w.heap.size w)
 unfold spec_GoodField.f at h; have H := h
 clear h
 replace H := bs H
 obtain ⟨t231, A2, H⟩ := H
 try dsimp only at H
 by_cases c3 : t231 = true
 ·subst c3
  rw [if_pos rfl] at H
  replace H := bs H
  obtain ⟨t232, A4, H⟩ := H
  try dsimp only at H
  by_cases c5 : t232 = true
  ·subst c5
   rw [if_pos rfl] at H
   by_cases c6 : (a0_1.size : Int) ≤ 300
   ·rw [if_pos c6] at H
    have c6b0 := decide_eq_true c6
    have c6b1 : decide (a0_1.size ≤ 300) = true := decide_eq_true (by omega)
    clear c6
    by_cases c7 : (a0_1.size : Int) = 0
    ·rw [if_pos c7] at H
     have c7b0 : ((a0_1.size : Int) == 0) = true := beq_iff_eq.mpr c7
     have c7b1 : ((a0_1.size : Int) != 0) = false := bne_eq_false_iff_eq.mpr c7
     clear c7
     obtain rfl := Option.some.inj H
     go_enter Tryz.func108, Tryz.ntmps108
     go_wp2_with (first | ((with_reducible refine gd 1 ?_); refine bE 1 #[.string a0_0, .string a0_1] 105 ?_; intro gb230 hg w8 hbox hb; have BK230 := ak hbox; have GW230 := gs hg (bl HB.out); have GE230 := gs hg (bl HB.out); replace HB := ak (below_step (bl HB.out) hb); clear hb hbox hg; obtain ⟨_, _, _, _⟩ := b2 BK230.out) | ((with_reducible refine gc 107 ?_); refine gL 107 Tryz.func107 (some 9) #[.string a0_0] ?_; (with_reducible refine (spec_l3Token.calls k a0_0 true _ A2.out).mono ?_); rintro e w' ⟨rfl, ⟨nd, rfl⟩⟩; refine ⟨_, rfl, ?_⟩) | (go_at_call 154; (with_reducible refine (spec_l3Printed.calls k a0_1 true _ A4.out).mono ?_); rintro e w' ⟨rfl, ⟨nd, rfl⟩⟩))
     go_ret
     exact rz (bl1 HB.out GE230.out)
    ·rw [if_neg c7] at H
     have c7b0 : ((a0_1.size : Int) == 0) = false := beq_eq_false_iff_ne.mpr c7
     have c7b1 : ((a0_1.size : Int) != 0) = true := bne_iff_ne.mpr c7
     by_cases c10 : 0 < (a0_1.size : Int)
     ·rw [if_pos c10] at H
      have c10b0 := decide_eq_true c10
      have c10b1 : decide (0 < a0_1.size) = true := decide_eq_true (by omega)
      clear c10
      by_cases c12 : (bt a0_1 0) = 32
      ·rw [if_pos c12] at H
       have c12b0 : ((bt a0_1 0) == 32) = true := beq_iff_eq.mpr c12
       have c12b1 : ((bt a0_1 0) != 32) = false := bne_eq_false_iff_eq.mpr c12
       clear c12
       obtain rfl := Option.some.inj H
       go_enter Tryz.func108, Tryz.ntmps108
       go_wp2_with (first | ((with_reducible refine gd 1 ?_); refine bE 1 #[.string a0_0, .string a0_1] 105 ?_; intro gb230 hg w13 hbox hb; have BK230 := ak hbox; have GW230 := gs hg (bl HB.out); have GE230 := gs hg (bl HB.out); replace HB := ak (below_step (bl HB.out) hb); clear hb hbox hg; obtain ⟨_, _, _, _⟩ := b2 BK230.out) | ((with_reducible refine gc 107 ?_); refine gL 107 Tryz.func107 (some 9) #[.string a0_0] ?_; (with_reducible refine (spec_l3Token.calls k a0_0 true _ A2.out).mono ?_); rintro e w' ⟨rfl, ⟨nd, rfl⟩⟩; refine ⟨_, rfl, ?_⟩) | (go_at_call 154; (with_reducible refine (spec_l3Printed.calls k a0_1 true _ A4.out).mono ?_); rintro e w' ⟨rfl, ⟨nd, rfl⟩⟩; have p11 : 0 ≤ (0 : Int) := (by omega); have q11 : 0 < a0_1.size := (by have : (0 : Int) < (a0_1.size : Int) := od; omega); have hx11 : ∀ h : 0 < a0_1.size, ((a0_1[0]'h).toNat : Int) = bt a0_1 0 := bt_at a0_1 0; clear p11; have qi11 : (0 < (a0_1.size : Int)) = True := eq_true (od); replace q11 := eq_true q11))
       go_ret
       exact rz (bl1 HB.out GE230.out)
      ·rw [if_neg c12] at H
       have c12b0 : ((bt a0_1 0) == 32) = false := beq_eq_false_iff_ne.mpr c12
       have c12b1 : ((bt a0_1 0) != 32) = true := bne_iff_ne.mpr c12
       obtain ⟨ji15, hji15⟩ : ∃ j_ : Int, (wrap64 ((a0_1.size : Int) - 1)) = j_ := ⟨_, rfl⟩
       replace H : (if 0 ≤ (ji15) then (if (ji15) < (a0_1.size : Int) then (some ((bt a0_1 (ji15)) != 32)) else (none)) else (none)) = some r := by first | (rw [hji15] at H; exact H) | (simp only [hji15] at H ⊢; exact H)
       (try rw [hji15] at A2)
       (try rw [hji15] at A4)
       have hji15w : (IntKind.i64.wrap ((a0_1.size : Int) - 1)) = ji15 := (i64_w _).trans hji15
       by_cases c16 : 0 ≤ (ji15)
       ·rw [if_pos c16] at H
        have c16b0 := decide_eq_true c16
        clear c16
        by_cases c17 : (ji15) < (a0_1.size : Int)
        ·rw [if_pos c17] at H
         have c17b0 := decide_eq_true c17
         clear c17
         obtain rfl := Option.some.inj H
         go_enter Tryz.func108, Tryz.ntmps108
         go_wp2_with (first | ((with_reducible refine gd 1 ?_); refine bE 1 #[.string a0_0, .string a0_1] 105 ?_; intro gb230 hg w19 hbox hb; have BK230 := ak hbox; have GW230 := gs hg (bl HB.out); have GE230 := gs hg (bl HB.out); replace HB := ak (below_step (bl HB.out) hb); clear hb hbox hg; obtain ⟨_, _, _, _⟩ := b2 BK230.out) | ((with_reducible refine gc 107 ?_); refine gL 107 Tryz.func107 (some 9) #[.string a0_0] ?_; (with_reducible refine (spec_l3Token.calls k a0_0 true _ A2.out).mono ?_); rintro e w' ⟨rfl, ⟨nd, rfl⟩⟩; refine ⟨_, rfl, ?_⟩) | (go_at_call 154; (with_reducible refine (spec_l3Printed.calls k a0_1 true _ A4.out).mono ?_); rintro e w' ⟨rfl, ⟨nd, rfl⟩⟩; have p11 : 0 ≤ (0 : Int) := (by omega); have q11 : 0 < a0_1.size := (by have : (0 : Int) < (a0_1.size : Int) := od; omega); have hx11 : ∀ h : 0 < a0_1.size, ((a0_1[0]'h).toNat : Int) = bt a0_1 0 := bt_at a0_1 0; clear p11; have qi11 : (0 < (a0_1.size : Int)) = True := eq_true (od); replace q11 := eq_true q11; have p18 : 0 ≤ ((ji15) : Int) := od; have q18 : (ji15) < (a0_1.size : Int) := od; have hx18 := bt_at a0_1 (ji15); replace p18 := eq_true p18; replace q18 := eq_true q18))
         go_ret
         exact ⟨by first | rfl | (simp [errW_none, errW_some] <;> rfl) | (simp only [← hji15]; first | rfl | (simp [errW_none, errW_some] <;> rfl)) | (simp [*, errW_none, errW_some] <;> rfl), bl1 HB.out GE230.out⟩
        ·rw [if_neg c17] at H
         exact absurd H (by simp)
       ·rw [if_neg c16] at H
        exact absurd H (by simp)
     ·rw [if_neg c10] at H
      exact absurd H (by simp)
   ·rw [if_neg c6] at H
    have c6b0 := decide_eq_false c6
    have c6b1 : decide (a0_1.size ≤ 300) = false := decide_eq_false (by omega)
    clear c6
    obtain rfl := Option.some.inj H
    go_enter Tryz.func108, Tryz.ntmps108
    go_wp2_with (first | ((with_reducible refine gd 1 ?_); refine bE 1 #[.string a0_0, .string a0_1] 105 ?_; intro gb230 hg w21 hbox hb; have BK230 := ak hbox; have GW230 := gs hg (bl HB.out); have GE230 := gs hg (bl HB.out); replace HB := ak (below_step (bl HB.out) hb); clear hb hbox hg; obtain ⟨_, _, _, _⟩ := b2 BK230.out) | ((with_reducible refine gc 107 ?_); refine gL 107 Tryz.func107 (some 9) #[.string a0_0] ?_; (with_reducible refine (spec_l3Token.calls k a0_0 true _ A2.out).mono ?_); rintro e w' ⟨rfl, ⟨nd, rfl⟩⟩; refine ⟨_, rfl, ?_⟩) | (go_at_call 154; (with_reducible refine (spec_l3Printed.calls k a0_1 true _ A4.out).mono ?_); rintro e w' ⟨rfl, ⟨nd, rfl⟩⟩))
    go_ret
    exact rz (bl1 HB.out GE230.out)
  ·replace c5 := Bool.eq_false_iff.mpr c5
   subst c5
   rw [if_neg ff] at H
   obtain rfl := Option.some.inj H
   go_enter Tryz.func108, Tryz.ntmps108
   go_wp2_with (first | ((with_reducible refine gd 1 ?_); refine bE 1 #[.string a0_0, .string a0_1] 105 ?_; intro gb230 hg w23 hbox hb; have BK230 := ak hbox; have GW230 := gs hg (bl HB.out); have GE230 := gs hg (bl HB.out); replace HB := ak (below_step (bl HB.out) hb); clear hb hbox hg; obtain ⟨_, _, _, _⟩ := b2 BK230.out) | ((with_reducible refine gc 107 ?_); refine gL 107 Tryz.func107 (some 9) #[.string a0_0] ?_; (with_reducible refine (spec_l3Token.calls k a0_0 true _ A2.out).mono ?_); rintro e w' ⟨rfl, ⟨nd, rfl⟩⟩; refine ⟨_, rfl, ?_⟩) | (go_at_call 154; (with_reducible refine (spec_l3Printed.calls k a0_1 false _ A4.out).mono ?_); rintro e w' ⟨rfl, ⟨nd, rfl⟩⟩))
   go_ret
   exact rz (bl1 HB.out GE230.out)
 ·replace c3 := Bool.eq_false_iff.mpr c3
  subst c3
  rw [if_neg ff] at H
  obtain rfl := Option.some.inj H
  go_enter Tryz.func108, Tryz.ntmps108
  go_wp2_with (first | ((with_reducible refine gd 1 ?_); refine bE 1 #[.string a0_0, .string a0_1] 105 ?_; intro gb230 hg w25 hbox hb; have BK230 := ak hbox; have GW230 := gs hg (bl HB.out); have GE230 := gs hg (bl HB.out); replace HB := ak (below_step (bl HB.out) hb); clear hb hbox hg; obtain ⟨_, _, _, _⟩ := b2 BK230.out) | ((with_reducible refine gc 107 ?_); refine gL 107 Tryz.func107 (some 9) #[.string a0_0] ?_; (with_reducible refine (spec_l3Token.calls k a0_0 false _ A2.out).mono ?_); rintro e w' ⟨rfl, ⟨nd, rfl⟩⟩; refine ⟨_, rfl, ?_⟩))
  go_ret
  exact rz (bl1 HB.out GE230.out)

/-! ### spec_l3Fields: function 67 -/
def spec_l3Fields.l0 : Nat → List (S105) → List (S105) → Int → Int → Option (Bool)
 | 0, _, _, _, _ => none
 | k + 1, x0, x5, x6, x7 => if x7 < x6 then (if 0 ≤ x7 then (if x7 < (x5.length : Int) then ((spec_GoodField.f k ((rd_T105 x5 x7).f0) ((rd_T105 x5 x7).f1)).bind fun t235 => (if t235 = true then (spec_l3Fields.l0 k x0 x5 x6 (wrap64 (x7 + 1))) else (some false))) else (none)) else (none)) else (some (decide ((x0.length : Int) ≤ 40)))
def spec_l3Fields.f (k : Nat) (l0 : List (S105)) : Option (Bool) := spec_l3Fields.l0 k l0 l0 (l0.length : Int) 0
theorem spec_l3Fields.mono_l : ∀ k, (∀ y0 y1 y2 y3, LeO (spec_l3Fields.l0 k y0 y1 y2 y3) (spec_l3Fields.l0 (k + 1) y0 y1 y2 y3))
 | 0 => fun _ _ _ _ r h => by simp [spec_l3Fields.l0] at h
 | k + 1 => by
  have ih0 := spec_l3Fields.mono_l k
  ·intro y0 y1 y2 y3
   unfold spec_l3Fields.l0
   repeat' with_reducible first | exact ih0 _ _ _ _ | exact spec_GoodField.mono _ _ _ | exact LeO.refl _ | exact LeO.none _ | refine LeO.ite ?_ ?_ | refine LeO.bind ?_ (fun _ => ?_)
theorem spec_l3Fields.mono : ∀ a0 k, LeO (spec_l3Fields.f k a0) (spec_l3Fields.f (k + 1) a0) := by
 intro a0 k
 have ih0 := spec_l3Fields.mono_l k
 unfold spec_l3Fields.f
 repeat' with_reducible first | exact ih0 _ _ _ _ | exact spec_GoodField.mono _ _ _ | exact LeO.refl _ | exact LeO.none _ | refine LeO.ite ?_ ?_ | refine LeO.bind ?_ (fun _ => ?_)
set_option maxHeartbeats 8000000 in
set_option maxRecDepth 100000 in
theorem spec_l3Fields.calls (k : Nat) (A0 : Option Addr) (c0 : Nat) (l0 : List (S105)) (r : Bool) (w : World) (hr0 : Kd.C k105 w A0 l0.length l0) (hc0 : l0.length ≤ c0) (h : spec_l3Fields.f k l0 = some r) :
  Calls Tryz.prog 67 #[.slice A0 l0.length c0] w fun e w' => e = .returned (.bool r) ∧ Below w.heap.size w w' := by
 have hu105 := Tryz.underlying105
 have HR0 := ak hr0
 have HC0 := ak hc0
 clear hr0 hc0
 have HB := ak (Below.refl w.heap.size w)
 have H : (spec_l3Fields.l0 k l0 l0 (l0.length : Int) 0) = some r := h
 clear h
 have H' := ak H
 clear H
 go_enter Tryz.func67, Tryz.ntmps67
 go_wp2
 go_loopg [7] k (fun kq v7 w' => ∃ (x7_1 : Int), v7 = .int .i64 x7_1 ∧ Aside0 (spec_l3Fields.l0 kq l0 l0 (l0.length : Int) x7_1 = some r) ∧ Aside0 (kq ≤ k) ∧ Aside0 (Below w.heap.size w w'))
 case atStart => exact ⟨(0), (by first | rfl | (simp; done) | (simp [*]; done)), H', ⟨Nat.le_refl _⟩, ⟨bl HB.out⟩⟩
 case round =>
  clear H'
  obtain ⟨x7_1, rfl, HA, HK1, HB⟩ := hrel
  cases gk with
  | zero => exact absurd HA.out (by simp [spec_l3Fields.l0])
  | succ k1 =>
   have H := HA.out
   clear HA
   simp only [spec_l3Fields.l0] at H
   by_cases c2 : x7_1 < (l0.length : Int)
   ·rw [if_pos c2] at H
    have c2b0 := decide_eq_true c2
    clear c2
    by_cases c3 : 0 ≤ x7_1
    ·rw [if_pos c3] at H
     have c3b0 := decide_eq_true c3
     clear c3
     by_cases c4 : x7_1 < (l0.length : Int)
     ·rw [if_pos c4] at H
      have c4b0 := decide_eq_true c4
      clear c4
      replace H := bs H
      obtain ⟨t235, A5, H⟩ := H
      try dsimp only at H
      by_cases c6 : t235 = true
      ·subst c6
       rw [if_pos rfl] at H
       have H' := ak H
       clear H
       have p233 : 0 ≤ (x7_1 : Int) := od
       have q233 : x7_1 < (l0.length : Int) := od
       obtain ⟨ad233, e233, hx233_0, hx233_1⟩ := at_T105 HR0.out x7_1 p233 q233
       cases e233
       replace hx233_0 := (HB.out.cell (World.block_lt_of_cell? w _ hx233_0)).trans hx233_0
       replace hx233_1 := (HB.out.cell (World.block_lt_of_cell? w _ hx233_1)).trans hx233_1
       replace p233 := eq_true p233
       replace q233 := eq_true q233
       go_wp2_with (first | ((with_reducible refine gd 4 ?_); refine bE 4 #[.string (⟨#[]⟩ : ByteArray), .string (⟨#[]⟩ : ByteArray)] 105 ?_; intro gb234 hg w7 hbox hb; have BK234 := ak hbox; have GW234 := gs hg (bl HB.out); have GE234 := gs hg (bl HB.out); replace HB := ak (below_step (bl HB.out) hb); clear hb hbox hg; obtain ⟨_, _, _, _⟩ := b2 BK234.out) | ((with_reducible refine gc 108 ?_); refine gL 108 Tryz.func108 (some 12) #[.agg #[.string ((rd_T105 l0 x7_1).f0), .string ((rd_T105 l0 x7_1).f1)]] ?_; (with_reducible refine (spec_GoodField.calls k1 ((rd_T105 l0 x7_1).f0) ((rd_T105 l0 x7_1).f1) true _ A5.out).mono ?_); rintro e w9 ⟨rfl, hb⟩; refine ⟨_, rfl, ?_⟩; replace BK234 := ak (blk_below (g := gb234) (o := .cells #[.string ((rd_T105 l0 x7_1).f0), .string ((rd_T105 l0 x7_1).f1)] 105 (0, 0)) (bq BK234.out) hb); replace HB := ak (below_step (bl1 HB.out GE234.out) hb); clear hb))
       go_roundg k1
       case measure => have := HK1.out; omega
       case rel => exact ⟨(wrap64 (x7_1 + 1)), (by first | rfl | (simp; done) | (simp [*]; done)), H', ⟨by have := HK1.out; omega⟩, ⟨bl1 HB.out GE234.out⟩⟩
      ·replace c6 := Bool.eq_false_iff.mpr c6
       subst c6
       rw [if_neg ff] at H
       obtain rfl := Option.some.inj H
       have p233 : 0 ≤ (x7_1 : Int) := od
       have q233 : x7_1 < (l0.length : Int) := od
       obtain ⟨ad233, e233, hx233_0, hx233_1⟩ := at_T105 HR0.out x7_1 p233 q233
       cases e233
       replace hx233_0 := (HB.out.cell (World.block_lt_of_cell? w _ hx233_0)).trans hx233_0
       replace hx233_1 := (HB.out.cell (World.block_lt_of_cell? w _ hx233_1)).trans hx233_1
       replace p233 := eq_true p233
       replace q233 := eq_true q233
       go_wp2_with (first | ((with_reducible refine gd 4 ?_); refine bE 4 #[.string (⟨#[]⟩ : ByteArray), .string (⟨#[]⟩ : ByteArray)] 105 ?_; intro gb234 hg w10 hbox hb; have BK234 := ak hbox; have GW234 := gs hg (bl HB.out); have GE234 := gs hg (bl HB.out); replace HB := ak (below_step (bl HB.out) hb); clear hb hbox hg; obtain ⟨_, _, _, _⟩ := b2 BK234.out) | ((with_reducible refine gc 108 ?_); refine gL 108 Tryz.func108 (some 12) #[.agg #[.string ((rd_T105 l0 x7_1).f0), .string ((rd_T105 l0 x7_1).f1)]] ?_; (with_reducible refine (spec_GoodField.calls k1 ((rd_T105 l0 x7_1).f0) ((rd_T105 l0 x7_1).f1) false _ A5.out).mono ?_); rintro e w12 ⟨rfl, hb⟩; refine ⟨_, rfl, ?_⟩; replace BK234 := ak (blk_below (g := gb234) (o := .cells #[.string ((rd_T105 l0 x7_1).f0), .string ((rd_T105 l0 x7_1).f1)] 105 (0, 0)) (bq BK234.out) hb); replace HB := ak (below_step (bl1 HB.out GE234.out) hb); clear hb))
       go_ret
       exact rz (bl1 HB.out GE234.out)
     ·rw [if_neg c4] at H
      exact absurd H (by simp)
    ·rw [if_neg c3] at H
     exact absurd H (by simp)
   ·rw [if_neg c2] at H
    have c2b0 := decide_eq_false c2
    clear c2
    obtain rfl := Option.some.inj H
    go_wp2
    go_ret
    exact rz (bl HB.out)

/-! ### a text made small in a row of its own -/
structure Lw (w : World) (g : Nat) (ys : List Int) : Prop where
 blk : ∃ (cs : Array Value) (f : Nat × Nat), w.heap[g]? = some (.cells cs 5 f) ∧ (∀ j, j < ys.length → cs[j]? = some (.int .u8 (ys.getD j 0))) ∧ ys.length ≤ f.1
theorem Lw.cell {w : World} {g : Nat} {ys : List Int} (h : Lw w g ys) (j : Nat) (hj : j < ys.length) : w.cell? ⟨g, j, none⟩ = some (.int .u8 (ys.getD j 0)) := by
 obtain ⟨cs, f, h1, h2, _⟩ := h.blk
 simp only [World.cell?, h1, Option.bind_some]
 exact h2 j hj
theorem Lw.frozen {w : World} {g : Nat} {ys : List Int} (h : Lw w g ys) (j : Nat) (hj : j < ys.length) : w.frozen? ⟨g, j, none⟩ = false := by
 obtain ⟨cs, f, h1, _, h3⟩ := h.blk
 have h4 : ¬ f.1 ≤ j := by omega
 simp [World.frozen?, h1, h4]
theorem Lw.set {w : World} {g : Nat} {ys : List Int} (h : Lw w g ys) (j : Nat) (hj : j < ys.length) (c : Int) : Lw (w.setCell ⟨g, j, none⟩ (.int .u8 c)) g (ys.set j c) := by
 obtain ⟨cs, f, h1, h2, h3⟩ := h.blk
 refine ⟨⟨cs.setIfInBounds j (.int .u8 c), f, ?_, fun i hi => ?_, by rw [List.length_set]; exact h3⟩⟩
 ·rw [setCell_eq_setRow w g j cs 5 f _ h1]
  exact setRow_heap w g _ _ 5 _ h1
 ·rw [List.length_set] at hi
  have hs : j < cs.size := by
   rcases Nat.lt_or_ge j cs.size with h' | h'
   ·exact h'
   ·have := h2 j hj; rw [Array.getElem?_eq_none h'] at this; cases this
  rw [Array.getElem?_setIfInBounds]
  by_cases e : j = i
  ·subst e; simp [hs, List.getD_eq_getElem?_getD, hj]
  ·rw [if_neg e, h2 i hi]; simp [List.getD_eq_getElem?_getD, List.getElem?_set, e]
theorem Lw.start (w : World) (s : ByteArray) : Lw (Lib.bytesWorld w 5 s) w.heap.size (bytesOf s) := by
 refine ⟨⟨_, _, Lib.bytesWorld_at_new w 5 s, fun j hj => ?_, ?_⟩⟩
 ·rw [bytesOf_length] at hj
  have h' : j < s.data.toList.length := by rw [data_length]; exact hj
  have hz : j < s.data.size := by rw [← Array.length_toList]; exact h'
  unfold Lib.bytesCells
  rw [Array.getElem?_append_left (by rw [Array.size_map]; exact hz), Array.getElem?_map, Array.getElem?_eq_getElem hz]
  simp [bytesOf, List.getD_eq_getElem?_getD, hz]
  rw [Array.getElem?_eq_getElem hz]; rfl
 ·rw [bytesOf_length]
  show s.size ≤ (Lib.bytesCells w 5 s).size
  unfold Lib.bytesCells
  rw [Array.size_append, Array.size_map]
  exact Nat.le_add_right _ _
theorem Lw.reads {w : World} {g : Nat} {ys : List Int} (h : Lw w g ys) (hm : ys.length ≤ 9223372036854775807) : ReadsInt w .u8 (some ⟨g, 0, none⟩) ys.length ys :=
 ⟨rfl, hm, fun _ => ⟨_, rfl, fun j hj => by rw [add_plain]; exact h.cell j hj⟩⟩
def lowI (c : Int) : Int := if 65 ≤ c ∧ c ≤ 90 then c + 32 else c
def lowAt (s : ByteArray) (j : Nat) : List Int := ((bytesOf s).take j).map lowI ++ (bytesOf s).drop j
def lowT (s : ByteArray) : ByteArray := strOfNums ((bytesOf s).map lowI)
theorem lowAt_length (s : ByteArray) (j : Nat) (hj : j ≤ s.size) : (lowAt s j).length = s.size := by
 unfold lowAt
 rw [List.length_append, List.length_map, List.length_take, List.length_drop, bytesOf_length]; omega
theorem lowAt_end (s : ByteArray) : lowAt s s.size = (bytesOf s).map lowI := by
 unfold lowAt
 rw [List.take_of_length_le (by rw [bytesOf_length]; exact Nat.le_refl _), List.drop_of_length_le (by rw [bytesOf_length]; exact Nat.le_refl _), List.append_nil]
theorem lowAt_get (s : ByteArray) (j : Nat) (hj : j < s.size) : (lowAt s j).getD j 0 = bt s (j : Int) := by
 unfold lowAt
 have h1 : (((bytesOf s).take j).map lowI).length = j := by rw [List.length_map, List.length_take, bytesOf_length]; omega
 rw [← rd_bytesOf]
 show _ = (bytesOf s).getD j 0
 rw [List.getD_eq_getElem?_getD, List.getD_eq_getElem?_getD, List.getElem?_append_right (by omega), h1, Nat.sub_self, List.getElem?_drop, Nat.add_zero]
theorem lowAt_step (s : ByteArray) (j : Nat) (hj : j < s.size) : lowAt s (j + 1) = (lowAt s j).set j (lowI (bt s (j : Int))) := by
 have hl : j < (bytesOf s).length := by rw [bytesOf_length]; exact hj
 have he : (bytesOf s)[j] = bt s (j : Int) := by
  rw [← rd_bytesOf]
  show _ = (bytesOf s).getD j 0
  rw [List.getD_eq_getElem?_getD, List.getElem?_eq_getElem hl]; rfl
 unfold lowAt
 have h1 : (((bytesOf s).take j).map lowI).length = j := by rw [List.length_map, List.length_take, bytesOf_length]; omega
 rw [List.set_append_right _ _ (by omega), h1, Nat.sub_self, List.drop_eq_getElem_cons hl, List.set_cons_zero, List.take_succ_eq_append_getElem hl, List.map_append, List.append_assoc, he]
 rfl
theorem lowAt_same (s : ByteArray) (j : Nat) (hj : j < s.size) (h : ¬ (65 ≤ bt s (j : Int) ∧ bt s (j : Int) ≤ 90)) : lowAt s (j + 1) = lowAt s j := by
 rw [lowAt_step s j hj]
 have e : lowI (bt s (j : Int)) = bt s (j : Int) := by unfold lowI; rw [if_neg h]
 have hl : j < (lowAt s j).length := by rw [lowAt_length s j (by omega)]; exact hj
 rw [e, ← lowAt_get s j hj, List.getD_eq_getElem?_getD, List.getElem?_eq_getElem hl]
 simp
theorem lowAt_up (s : ByteArray) (j : Nat) (hj : j < s.size) (h : 65 ≤ bt s (j : Int) ∧ bt s (j : Int) ≤ 90) : lowAt s (j + 1) = (lowAt s j).set j (bt s (j : Int) + 32) := by
 rw [lowAt_step s j hj]
 have e : lowI (bt s (j : Int)) = bt s (j : Int) + 32 := by unfold lowI; rw [if_pos h]
 rw [e]
/-! ### spec_l1Lower: function 137 -/
def spec_l1Lower.f (a0 : ByteArray) : Option ByteArray := if a0.size ≤ 9223372036854775807 then some (lowT a0) else none
set_option maxHeartbeats 4000000 in
set_option maxRecDepth 100000 in
theorem spec_l1Lower.calls (a0 : ByteArray) (r : ByteArray) (w : World) (h : spec_l1Lower.f a0 = some r) :
  Calls Tryz.prog 137 #[.string a0] w fun e w' => e = .returned (.string r) ∧ Below w.heap.size w w' := by
 unfold spec_l1Lower.f at h
 split at h
 rotate_left
 ·cases h
 rename_i hm
 obtain rfl := Option.some.inj h
 clear h
 have kb := fun W => print_bytes (P := Tryz.prog) 9 66 5 Tryz.underlying9 Tryz.underlying66 Tryz.underlying5 a0 W
 have HB := ak (bytes_below (Below.refl w.heap.size w) (Nat.le_refl _) 5 a0)
 have HL := ak (show Lw (Lib.bytesWorld w 5 a0) w.heap.size (lowAt a0 0) from Lw.start w a0)
 go_enter Tryz.func137, Tryz.ntmps137
 go_wp2
 generalize hcap : grownCap w a0.size 0 5 = cap
 clear hcap kb
 go_loopg [9] a0.size (fun gg s9 wr => ∃ j : Nat, j ≤ a0.size ∧ a0.size - j ≤ gg ∧ s9 = .int .i64 j ∧ Aside0 (Lw wr w.heap.size (lowAt a0 j)) ∧ Aside0 (Below w.heap.size w wr))
 case atStart => exact ⟨0, Nat.zero_le _, by omega, rfl, HL, HB⟩
 case round =>
  clear HB HL
  obtain ⟨j, hj, hg, rfl, HL, HB⟩ := hrel
  have hlen := lowAt_length a0 j hj
  by_cases hlt : j < a0.size
  ·have hlt' : (j : Int) < (a0.size : Int) := by omega
   have hj0 : (0 : Int) ≤ (j : Int) := by omega
   have hc := HL.out.cell j (by omega)
   have hf := HL.out.frozen j (by omega)
   rw [lowAt_get a0 j hlt] at hc
   have hw1 : wrap64 ((j : Int) + 1) = ((j + 1 : Nat) : Int) := by unfold wrap64; omega
   have hbr := bt_range a0 (j : Int)
   by_cases h1 : 65 ≤ bt a0 (j : Int)
   ·have h1b : decide (65 ≤ bt a0 (j : Int)) = true := decide_eq_true h1
    by_cases h2 : bt a0 (j : Int) ≤ 90
    ·have h2b : decide (bt a0 (j : Int) ≤ 90) = true := decide_eq_true h2
     have e := lowAt_up a0 j hlt ⟨h1, h2⟩
     have HS := ak (HL.out.set j (by omega) (bt a0 (j : Int) + 32))
     rw [← e] at HS
     have hm32 : (bt a0 (j : Int) + 32) % 256 = bt a0 (j : Int) + 32 := by omega
     clear e
     generalize bt a0 (j : Int) = c at *
     go_wp2
     go_roundg (a0.size - (j + 1))
     case measure => omega
     case rel => exact ⟨j + 1, by omega, Nat.le_refl _, by go_num, HS, ⟨below_set HB.out (Nat.le_refl _)⟩⟩
    ·have h2b : decide (bt a0 (j : Int) ≤ 90) = false := decide_eq_false h2
     have e := lowAt_same a0 j hlt (fun h => h2 h.2)
     rw [← e] at HL
     generalize bt a0 (j : Int) = c at *
     go_wp2
     go_roundg (a0.size - (j + 1))
     case measure => omega
     case rel => exact ⟨j + 1, by omega, Nat.le_refl _, by go_num, HL, HB⟩
   ·have h1b : decide (65 ≤ bt a0 (j : Int)) = false := decide_eq_false h1
    have e := lowAt_same a0 j hlt (fun h => h1 h.1)
    rw [← e] at HL
    generalize bt a0 (j : Int) = c at *
    go_wp2
    go_roundg (a0.size - (j + 1))
    case measure => omega
    case rel => exact ⟨j + 1, by omega, Nat.le_refl _, by go_num, HL, HB⟩
  ·have hlt' : ¬ (j : Int) < (a0.size : Int) := by omega
   obtain rfl : j = a0.size := by omega
   rw [lowAt_end] at HL hlen
   have hr := HL.out.reads (by omega)
   rw [hlen] at hr
   have hs := string_of_reads (P := Tryz.prog) (src := 66) (dst := 9) (e := 5) (c := cap) Tryz.underlying66 Tryz.underlying5 Tryz.underlying9 hr
   clear hr
   go_wp2
   go_ret
   exact ⟨rfl, HB.out⟩


/-! ### spec_l3Is: function 156 -/
def spec_l3Is.f (a0_0 : ByteArray) (a0_1 : ByteArray) (a1 : ByteArray) : Option (Bool) := (spec_l1Lower.f a0_0).bind fun t237 => ((spec_l1Lower.f a1).bind fun t238 => (some (t237.toList == t238.toList)))
set_option maxHeartbeats 8000000 in
set_option maxRecDepth 100000 in
theorem spec_l3Is.calls (a0_0 : ByteArray) (a0_1 : ByteArray) (a1 : ByteArray) (r : Bool) (w : World) (h : spec_l3Is.f a0_0 a0_1 a1 = some r) :
  Calls Tryz.prog 156 #[.agg #[.string a0_0, .string a0_1], .string a1] w fun e w' => e = .returned (.bool r) ∧ Below w.heap.size w w' := by
 have hu105 := Tryz.underlying105
 have HB := ak (Below.refl w.heap.size w)
 unfold spec_l3Is.f at h; have H := h
 clear h
 replace H := bs H
 obtain ⟨t237, A3, H⟩ := H
 try dsimp only at H
 replace H := bs H
 obtain ⟨t238, A4, H⟩ := H
 try dsimp only at H
 obtain rfl := Option.some.inj H
 go_enter Tryz.func156, Tryz.ntmps156
 go_wp2_with (first | ((with_reducible refine gd 2 ?_); refine bE 2 #[.string a0_0, .string a0_1] 105 ?_; intro gb236 hg w5 hbox hb; have BK236 := ak hbox; have GW236 := gs hg (bl HB.out); have GE236 := gs hg (bl HB.out); replace HB := ak (below_step (bl HB.out) hb); clear hb hbox hg; obtain ⟨_, _, _, _⟩ := b2 BK236.out) | ((with_reducible refine gc 137 ?_); refine gL 137 Tryz.func137 (some 7) #[.string a0_0] ?_; (with_reducible refine (spec_l1Lower.calls a0_0 t237 _ A3.out).mono ?_); rintro e w7 ⟨rfl, hb⟩; refine ⟨_, rfl, ?_⟩; replace BK236 := ak (blk_below (bk BK236.out) hb); replace HB := ak (below_step (bl1 HB.out GE236.out) hb); clear hb) | ((with_reducible refine gc 137 ?_); refine gL 137 Tryz.func137 (some 9) #[.string a1] ?_; (with_reducible refine (spec_l1Lower.calls a1 t238 _ A4.out).mono ?_); rintro e w8 ⟨rfl, hb⟩; refine ⟨_, rfl, ?_⟩; replace BK236 := ak (blk_below (bk BK236.out) hb); replace HB := ak (below_step (bl1 HB.out GE236.out) hb); clear hb))
 go_ret
 exact rz (bl1 HB.out GE236.out)

/-! ### spec_l3Values: function 110 -/
def spec_l3Values.l0 : Nat → ByteArray → List ByteArray → List (S105) → Int → Int → Option (List ByteArray)
 | 0, _, _, _, _, _ => none
 | k + 1, x1, x5, x8, x9, x10 => if x10 < x9 then (if 0 ≤ x10 then (if x10 < (x8.length : Int) then ((spec_l3Is.f ((rd_T105 x8 x10).f0) ((rd_T105 x8 x10).f1) x1).bind fun t241 => (if t241 = true then (if x5.length < 8796093022208 then (spec_l3Values.l0 k x1 (x5 ++ [(rd_T105 x8 x10).f1]) x8 x9 (wrap64 (x10 + 1))) else (none)) else (spec_l3Values.l0 k x1 x5 x8 x9 (wrap64 (x10 + 1))))) else (none)) else (none)) else (some x5)
def spec_l3Values.f (k : Nat) (l0 : List (S105)) (a1 : ByteArray) : Option (List ByteArray) := spec_l3Values.l0 k a1 ([] : List ByteArray) l0 (l0.length : Int) 0
theorem spec_l3Values.mono_l : ∀ k, (∀ y0 y1 y2 y3 y4, LeO (spec_l3Values.l0 k y0 y1 y2 y3 y4) (spec_l3Values.l0 (k + 1) y0 y1 y2 y3 y4))
 | 0 => fun _ _ _ _ _ r h => by simp [spec_l3Values.l0] at h
 | k + 1 => by
  have ih0 := spec_l3Values.mono_l k
  ·intro y0 y1 y2 y3 y4
   unfold spec_l3Values.l0
   repeat' with_reducible first | exact ih0 _ _ _ _ _ | exact LeO.refl _ | exact LeO.none _ | refine LeO.ite ?_ ?_ | refine LeO.bind ?_ (fun _ => ?_)
theorem spec_l3Values.mono : ∀ a0 a1 k, LeO (spec_l3Values.f k a0 a1) (spec_l3Values.f (k + 1) a0 a1) := by
 intro a0 a1 k
 have ih0 := spec_l3Values.mono_l k
 unfold spec_l3Values.f
 repeat' with_reducible first | exact ih0 _ _ _ _ _ | exact LeO.refl _ | exact LeO.none _ | refine LeO.ite ?_ ?_ | refine LeO.bind ?_ (fun _ => ?_)
set_option maxHeartbeats 8000000 in
set_option maxRecDepth 100000 in
theorem spec_l3Values.calls (k : Nat) (A0 : Option Addr) (c0 : Nat) (l0 : List (S105)) (a1 : ByteArray) (r : List ByteArray) (w : World) (hr0 : Kd.C k105 w A0 l0.length l0) (hc0 : l0.length ≤ c0) (h : spec_l3Values.f k l0 a1 = some r) :
  Calls Tryz.prog 110 #[.slice A0 l0.length c0, .string a1] w fun e w' => ∃ v0_ : Value, e = .returned (v0_) ∧ Kd.R Kd.string 9 w' w.heap.size (fun _ => True) v0_ r ∧ Below w.heap.size w w' := by
 have hu105 := Tryz.underlying105
 have HR0 := ak hr0
 have HC0 := ak hc0
 clear hr0 hc0
 have HB := ak (Below.refl w.heap.size w)
 have H : (spec_l3Values.l0 k a1 ([] : List ByteArray) l0 (l0.length : Int) 0) = some r := h
 clear h
 have H' := ak H
 clear H
 go_enter Tryz.func110, Tryz.ntmps110
 go_wp2
 go_loopg [5, 10] k (fun kq v5 v10 w' => ∃ (x5_1 : List ByteArray) (x10_1 : Int), v10 = .int .i64 x10_1 ∧ Aside0 (spec_l3Values.l0 kq a1 x5_1 l0 (l0.length : Int) x10_1 = some r) ∧ Aside0 (kq ≤ k) ∧ Aside0 (Kd.R Kd.string 9 w' w.heap.size (fun _ => True) v5 x5_1) ∧ Aside0 (Below w.heap.size w w'))
 case atStart => exact ⟨(([] : List ByteArray)), (0), (by first | rfl | (simp; done) | (simp [*]; done)), H', ⟨Nat.le_refl _⟩, ⟨by first | exact Kd.R_nil _ _ _ _ _ | exact Kd.N_nil _ _ _ _ _ | exact Kd.V_nil _ _ _ _ _ | exact Kd.Q_nil _ _ _ _ _ | exact Kd.S_nil _ _ _ _ _⟩, ⟨bl HB.out⟩⟩
 case round =>
  clear H'
  try clear c1
  try clear p2
  obtain ⟨x5_1, x10_1, rfl, HA, HK1, HO_5, HB⟩ := hrel
  cases gk with
  | zero => exact absurd HA.out (by simp [spec_l3Values.l0])
  | succ k1 =>
   have H := HA.out
   clear HA
   simp only [spec_l3Values.l0] at H
   by_cases c3 : x10_1 < (l0.length : Int)
   ·rw [if_pos c3] at H
    have c3b0 := decide_eq_true c3
    clear c3
    by_cases c4 : 0 ≤ x10_1
    ·rw [if_pos c4] at H
     have c4b0 := decide_eq_true c4
     clear c4
     by_cases c5 : x10_1 < (l0.length : Int)
     ·rw [if_pos c5] at H
      have c5b0 := decide_eq_true c5
      clear c5
      replace H := bs H
      obtain ⟨t241, A6, H⟩ := H
      try dsimp only at H
      by_cases c7 : t241 = true
      ·subst c7
       rw [if_pos rfl] at H
       by_cases c8 : x5_1.length < 8796093022208
       ·rw [if_pos c8] at H
        have LMc8 := ak c8
        clear c8
        obtain ⟨y242, hy242⟩ : ∃ y_ : List ByteArray, y_ = (x5_1 ++ [(rd_T105 l0 x10_1).f1]) := ⟨_, rfl⟩
        replace H : (spec_l3Values.l0 k1 a1 y242 l0 (l0.length : Int) (wrap64 (x10_1 + 1))) = some r := by first | (rw [hy242]; with_reducible exact H) | (have H2_ := (Option.bind_some _ _).symm.trans H; rw [hy242]; with_reducible exact H2_) | (have H2_ := (Option.bind_some _ _).symm.trans H; with_reducible exact H2_) | with_reducible exact H | (rw [hy242]; exact H) | exact H
        have Ny242 := ak hy242
        clear hy242
        have H' := ak H
        clear H
        have p239 : 0 ≤ (x10_1 : Int) := od
        have q239 : x10_1 < (l0.length : Int) := od
        obtain ⟨ad239, e239, hx239_0, hx239_1⟩ := at_T105 HR0.out x10_1 p239 q239
        cases e239
        replace hx239_0 := (HB.out.cell (World.block_lt_of_cell? w _ hx239_0)).trans hx239_0
        replace hx239_1 := (HB.out.cell (World.block_lt_of_cell? w _ hx239_1)).trans hx239_1
        replace p239 := eq_true p239
        replace q239 := eq_true q239
        go_wp2_with (first | ((with_reducible refine gd 7 ?_); refine bE 7 #[.string (⟨#[]⟩ : ByteArray), .string (⟨#[]⟩ : ByteArray)] 105 ?_; intro gb240 hg w9 hbox hb; replace HO_5 := ak (Kd.R_below (kr HO_5.out) hb); have BK240 := ak hbox; have GW240 := gs hg (bl HB.out); have GE240 := gs hg (bl HB.out); replace HB := ak (below_step (bl HB.out) hb); clear hb hbox hg; obtain ⟨_, _, _, _⟩ := b2 BK240.out) | ((with_reducible refine gc 156 ?_); refine gL 156 Tryz.func156 (some 16) #[.agg #[.string ((rd_T105 l0 x10_1).f0), .string ((rd_T105 l0 x10_1).f1)], .string a1] ?_; (with_reducible refine (spec_l3Is.calls ((rd_T105 l0 x10_1).f0) ((rd_T105 l0 x10_1).f1) a1 true _ A6.out).mono ?_); rintro e w11 ⟨rfl, hb⟩; refine ⟨_, rfl, ?_⟩; replace HO_5 := ak (Kd.R_below (by (with_reducible repeat (first | apply Kd.R_alloc | apply Kd.R_drewN | apply Kd.R_drew)); exact (Kd.R_mono (Kd.R_far (p := ⟨gb240, 1, none⟩) (Kd.R_far (p := ⟨gb240, 0, none⟩) (Kd.R_types HO_5.out BK240.out (by decide)) (fun _ hk => hk.2) (.string ((rd_T105 l0 x10_1).f0))) (fun _ hk => hk.2) (.string ((rd_T105 l0 x10_1).f1))) (fun _ h_ => h_.1))) hb); replace BK240 := ak (blk_below (g := gb240) (o := .cells #[.string ((rd_T105 l0 x10_1).f0), .string ((rd_T105 l0 x10_1).f1)] 105 (0, 0)) (bq BK240.out) hb); replace HB := ak (below_step (bl1 HB.out GE240.out) hb); clear hb; obtain ⟨_, _, _, _⟩ := b2 BK240.out) | ((with_reducible refine gate_builtin (b := .append) (xs := #[.tmp 17, .tmp 20]) rfl ?_); at_builtin; refine Kd.R_append Kd.string (w0 := w) w.heap.size rfl (.tmp 17) (.tmp 20) 114 9 (.string ⟨#[]⟩) 16 rfl Tryz.underlying114 info9 rfl (by decide) (by omega) u5 x5_1 ((rd_T105 l0 x10_1).f1) [.string ((rd_T105 l0 x10_1).f1)] (fun _ => True) (fun _ => False) rfl rfl ?aP (fun _ hk => hk.elim) ?aF ?aO ?aB ?aS ?aL ?_; (case aP => exact rfl); (case aB => exact (bl1 HB.out GE240.out)); (case aF => exact (fun _ _ => trivial)); (case aO => exact (kr HO_5.out)); (case aS => exact (below_size (bl1 HB.out GE240.out))); (case aL => have := LMc8.out; omega); intro v243 w13 ho hb hg hat; rw [← Ny242.out] at ho; replace BK240 := ak (blk_grown (bk BK240.out) hg (Kd.R_ne HO_5.out BK240.out (by decide))); replace HB := ak hb; have HO244 := ak ho; clear HO_5; clear ho hb hg hat))
        go_roundg k1
        case measure => have := HK1.out; omega
        case rel => exact ⟨(y242), (wrap64 (x10_1 + 1)), (by first | rfl | (simp; done) | (simp [*]; done)), H', ⟨by have := HK1.out; omega⟩, ⟨kr HO244.out⟩, ⟨bl1 HB.out GE240.out⟩⟩
       ·rw [if_neg c8] at H
        exact absurd H (by simp)
      ·replace c7 := Bool.eq_false_iff.mpr c7
       subst c7
       rw [if_neg ff] at H
       have H' := ak H
       clear H
       have p239 : 0 ≤ (x10_1 : Int) := od
       have q239 : x10_1 < (l0.length : Int) := od
       obtain ⟨ad239, e239, hx239_0, hx239_1⟩ := at_T105 HR0.out x10_1 p239 q239
       cases e239
       replace hx239_0 := (HB.out.cell (World.block_lt_of_cell? w _ hx239_0)).trans hx239_0
       replace hx239_1 := (HB.out.cell (World.block_lt_of_cell? w _ hx239_1)).trans hx239_1
       replace p239 := eq_true p239
       replace q239 := eq_true q239
       go_wp2_with (first | ((with_reducible refine gd 7 ?_); refine bE 7 #[.string (⟨#[]⟩ : ByteArray), .string (⟨#[]⟩ : ByteArray)] 105 ?_; intro gb240 hg w14 hbox hb; replace HO_5 := ak (Kd.R_below (kr HO_5.out) hb); have BK240 := ak hbox; have GW240 := gs hg (bl HB.out); have GE240 := gs hg (bl HB.out); replace HB := ak (below_step (bl HB.out) hb); clear hb hbox hg; obtain ⟨_, _, _, _⟩ := b2 BK240.out) | ((with_reducible refine gc 156 ?_); refine gL 156 Tryz.func156 (some 16) #[.agg #[.string ((rd_T105 l0 x10_1).f0), .string ((rd_T105 l0 x10_1).f1)], .string a1] ?_; (with_reducible refine (spec_l3Is.calls ((rd_T105 l0 x10_1).f0) ((rd_T105 l0 x10_1).f1) a1 false _ A6.out).mono ?_); rintro e w16 ⟨rfl, hb⟩; refine ⟨_, rfl, ?_⟩; replace HO_5 := ak (Kd.R_below (by (with_reducible repeat (first | apply Kd.R_alloc | apply Kd.R_drewN | apply Kd.R_drew)); exact (Kd.R_mono (Kd.R_far (p := ⟨gb240, 1, none⟩) (Kd.R_far (p := ⟨gb240, 0, none⟩) (Kd.R_types HO_5.out BK240.out (by decide)) (fun _ hk => hk.2) (.string ((rd_T105 l0 x10_1).f0))) (fun _ hk => hk.2) (.string ((rd_T105 l0 x10_1).f1))) (fun _ h_ => h_.1))) hb); replace BK240 := ak (blk_below (g := gb240) (o := .cells #[.string ((rd_T105 l0 x10_1).f0), .string ((rd_T105 l0 x10_1).f1)] 105 (0, 0)) (bq BK240.out) hb); replace HB := ak (below_step (bl1 HB.out GE240.out) hb); clear hb))
       go_roundg k1
       case measure => have := HK1.out; omega
       case rel => exact ⟨(x5_1), (wrap64 (x10_1 + 1)), (by first | rfl | (simp; done) | (simp [*]; done)), H', ⟨by have := HK1.out; omega⟩, ⟨kr HO_5.out⟩, ⟨bl1 HB.out GE240.out⟩⟩
     ·rw [if_neg c5] at H
      exact absurd H (by simp)
    ·rw [if_neg c4] at H
     exact absurd H (by simp)
   ·rw [if_neg c3] at H
    have c3b0 := decide_eq_false c3
    clear c3
    obtain rfl := Option.some.inj H
    go_wp2
    go_ret
    exact ⟨_, by first | rfl | (simp [errW_none, errW_some] <;> rfl) | (simp [*, errW_none, errW_some] <;> rfl), kr HO_5.out, bl HB.out⟩

/-! ### spec_l3Joined: function 135 -/
def spec_l3Joined.l0 : Nat → ByteArray → List ByteArray → List ByteArray → Int → Int → Option (ByteArray × Bool)
 | 0, _, _, _, _, _ => none
 | k + 1, x6, x7, x13, x14, x15 => if x15 < x14 then (if 0 ≤ x15 then (if x15 < (x13.length : Int) then (if x15 > 0 then (if x6.size + 2 ≤ 9223372036854775807 then (if (x6 ++ (⟨#[44, 32]⟩ : ByteArray)).size + (rdOf ByteArray.empty x13 x15).size ≤ 9223372036854775807 then (spec_l3Joined.l0 k ((x6 ++ (⟨#[44, 32]⟩ : ByteArray)) ++ (rdOf ByteArray.empty x13 x15)) x7 x13 x14 (wrap64 (x15 + 1))) else (none)) else (none)) else (if x6.size + (rdOf ByteArray.empty x13 x15).size ≤ 9223372036854775807 then (spec_l3Joined.l0 k (x6 ++ (rdOf ByteArray.empty x13 x15)) x7 x13 x14 (wrap64 (x15 + 1))) else (none))) else (none)) else (none)) else (some (x6, decide ((x7.length : Int) > 0)))
def spec_l3Joined.f (k : Nat) (l0 : List (S105)) (a1 : ByteArray) : Option (ByteArray × Bool) := (spec_l3Values.f k l0 a1).bind fun t245 => (spec_l3Joined.l0 k (⟨#[]⟩ : ByteArray) t245 t245 (t245.length : Int) 0)
theorem spec_l3Joined.mono_l : ∀ k, (∀ y0 y1 y2 y3 y4, LeO (spec_l3Joined.l0 k y0 y1 y2 y3 y4) (spec_l3Joined.l0 (k + 1) y0 y1 y2 y3 y4))
 | 0 => fun _ _ _ _ _ r h => by simp [spec_l3Joined.l0] at h
 | k + 1 => by
  have ih0 := spec_l3Joined.mono_l k
  ·intro y0 y1 y2 y3 y4
   unfold spec_l3Joined.l0
   repeat' with_reducible first | exact ih0 _ _ _ _ _ | exact spec_l3Values.mono _ _ _ | exact LeO.refl _ | exact LeO.none _ | refine LeO.ite ?_ ?_ | refine LeO.bind ?_ (fun _ => ?_)
theorem spec_l3Joined.mono : ∀ a0 a1 k, LeO (spec_l3Joined.f k a0 a1) (spec_l3Joined.f (k + 1) a0 a1) := by
 intro a0 a1 k
 have ih0 := spec_l3Joined.mono_l k
 unfold spec_l3Joined.f
 repeat' with_reducible first | exact ih0 _ _ _ _ _ | exact spec_l3Values.mono _ _ _ | exact LeO.refl _ | exact LeO.none _ | refine LeO.ite ?_ ?_ | refine LeO.bind ?_ (fun _ => ?_)
set_option maxHeartbeats 8000000 in
set_option maxRecDepth 100000 in
theorem spec_l3Joined.calls (k : Nat) (A0 : Option Addr) (c0 : Nat) (l0 : List (S105)) (a1 : ByteArray) (r1 : ByteArray) (r2 : Bool) (w : World) (hr0 : Kd.C k105 w A0 l0.length l0) (hc0 : l0.length ≤ c0) (h : spec_l3Joined.f k l0 a1 = some (r1, r2)) :
  Calls Tryz.prog 135 #[.slice A0 l0.length c0, .string a1] w fun e w' => e = .returned (.tuple #[.string r1, .bool r2]) ∧ Below w.heap.size w w' := by
 have HR0 := ak hr0
 have HC0 := ak hc0
 clear hr0 hc0
 have HB := ak (Below.refl w.heap.size w)
 unfold spec_l3Joined.f at h; have H := h
 clear h
 replace H := bs H
 obtain ⟨t245, A3, H⟩ := H
 try dsimp only at H
 have H' := ak H
 clear H
 go_enter Tryz.func135, Tryz.ntmps135
 go_wp2_with (first | ((with_reducible refine gc 110 ?_); refine gL 110 Tryz.func110 (some 12) #[.slice A0 l0.length c0, .string a1] ?_; (with_reducible refine (spec_l3Values.calls k _ _ l0 a1 t245 _ ?side1 ?side2 A3.out).mono ?_); (case side1 => exact kc HR0.out); (case side2 => exact HC0.out); rintro e w4 ⟨v246, rfl, ho0, hb⟩; refine ⟨_, rfl, ?_⟩; have HO247 := ak (Kd.R_lower ho0 (below_size (bl HB.out))); replace HB := ak (below_step (bl HB.out) hb); clear hb ho0; obtain ⟨Ao5, co5, eo5⟩ := Kd.R_slice HO247.out; subst eo5))
 go_loopg [6, 15] k (fun kq v6 v15 w' => ∃ (x6_1 : ByteArray) (x15_1 : Int), v6 = .string x6_1 ∧ v15 = .int .i64 x15_1 ∧ Aside0 (spec_l3Joined.l0 kq x6_1 t245 t245 (t245.length : Int) x15_1 = some (r1, r2)) ∧ Aside0 (kq ≤ k) ∧ Aside0 (Kd.R Kd.string 9 w' w.heap.size (fun _ => True) (.slice Ao5 t245.length co5) t245) ∧ Aside0 (Kd.R Kd.string 9 w' w.heap.size (fun _ => True) (.slice Ao5 t245.length co5) t245) ∧ Aside0 (Below w.heap.size w w'))
 case atStart => exact ⟨((⟨#[]⟩ : ByteArray)), (0), (by first | rfl | (simp; done) | (simp [*]; done)), (by first | rfl | (simp; done) | (simp [*]; done)), H', ⟨Nat.le_refl _⟩, ⟨kr HO247.out⟩, ⟨kr HO247.out⟩, ⟨bl HB.out⟩⟩
 case round =>
  clear H'
  try clear c1
  try clear p2
  obtain ⟨x6_1, x15_1, rfl, rfl, HA, HK1, HO_7, HO_13, HB⟩ := hrel
  cases gk with
  | zero => exact absurd HA.out (by simp [spec_l3Joined.l0])
  | succ k1 =>
   have H := HA.out
   clear HA
   simp only [spec_l3Joined.l0] at H
   by_cases c6 : x15_1 < (t245.length : Int)
   ·rw [if_pos c6] at H
    have c6b0 := decide_eq_true c6
    clear c6
    by_cases c7 : 0 ≤ x15_1
    ·rw [if_pos c7] at H
     have c7b0 := decide_eq_true c7
     clear c7
     by_cases c8 : x15_1 < (t245.length : Int)
     ·rw [if_pos c8] at H
      have c8b0 := decide_eq_true c8
      clear c8
      by_cases c9 : x15_1 > 0
      ·rw [if_pos c9] at H
       have c9b0 : decide (0 < x15_1) = true := decide_eq_true c9
       clear c9
       by_cases c10 : x6_1.size + 2 ≤ 9223372036854775807
       ·rw [if_pos c10] at H
        have c10b0 := eq_true c10
        have c10b1 := decide_eq_true c10
        try have c10b2 : (9223372036854775807 < x6_1.size + 2) = False := eq_false (Nat.not_lt.2 c10)
        by_cases c11 : (x6_1 ++ (⟨#[44, 32]⟩ : ByteArray)).size + (rdOf ByteArray.empty t245 x15_1).size ≤ 9223372036854775807
        ·rw [if_pos c11] at H
         have c11b0 := eq_true c11
         have c11b1 := decide_eq_true c11
         try have c11b2 : (9223372036854775807 < (x6_1 ++ (⟨#[44, 32]⟩ : ByteArray)).size + (rdOf ByteArray.empty t245 x15_1).size) = False := eq_false (Nat.not_lt.2 c11)
         try have c11b3 : (9223372036854775807 < x6_1.size + 2 + (rdOf ByteArray.empty t245 x15_1).size) = False := by (have h_ := c11b2; simp only [ByteArray.size_append] at h_; exact h_)
         have H' := ak H
         clear H
         have p248 : 0 ≤ (x15_1 : Int) := od
         have q248 : x15_1 < (t245.length : Int) := od
         obtain ⟨ad248, e248, hx248_0⟩ := Kd.at_string (Kd.R_reads' HO_13.out).2.2 x15_1 p248 q248
         cases e248
         replace p248 := eq_true p248
         replace q248 := eq_true q248
         go_wp2
         go_roundg k1
         case measure => have := HK1.out; omega
         case rel => exact ⟨((x6_1 ++ (⟨#[44, 32]⟩ : ByteArray)) ++ (rdOf ByteArray.empty t245 x15_1)), (wrap64 (x15_1 + 1)), (by first | rfl | (simp; done) | (simp [*]; done)), (by first | rfl | (simp; done) | (simp [*]; done)), H', ⟨by have := HK1.out; omega⟩, ⟨kr HO_7.out⟩, ⟨kr HO_13.out⟩, ⟨bl HB.out⟩⟩
        ·rw [if_neg c11] at H
         exact absurd H (by simp)
       ·rw [if_neg c10] at H
        exact absurd H (by simp)
      ·rw [if_neg c9] at H
       have c9b0 : decide (0 < x15_1) = false := decide_eq_false c9
       clear c9
       by_cases c12 : x6_1.size + (rdOf ByteArray.empty t245 x15_1).size ≤ 9223372036854775807
       ·rw [if_pos c12] at H
        have c12b0 := eq_true c12
        have c12b1 := decide_eq_true c12
        try have c12b2 : (9223372036854775807 < x6_1.size + (rdOf ByteArray.empty t245 x15_1).size) = False := eq_false (Nat.not_lt.2 c12)
        have H' := ak H
        clear H
        have p248 : 0 ≤ (x15_1 : Int) := od
        have q248 : x15_1 < (t245.length : Int) := od
        obtain ⟨ad248, e248, hx248_0⟩ := Kd.at_string (Kd.R_reads' HO_13.out).2.2 x15_1 p248 q248
        cases e248
        replace p248 := eq_true p248
        replace q248 := eq_true q248
        go_wp2
        go_roundg k1
        case measure => have := HK1.out; omega
        case rel => exact ⟨(x6_1 ++ (rdOf ByteArray.empty t245 x15_1)), (wrap64 (x15_1 + 1)), (by first | rfl | (simp; done) | (simp [*]; done)), (by first | rfl | (simp; done) | (simp [*]; done)), H', ⟨by have := HK1.out; omega⟩, ⟨kr HO_7.out⟩, ⟨kr HO_13.out⟩, ⟨bl HB.out⟩⟩
       ·rw [if_neg c12] at H
        exact absurd H (by simp)
     ·rw [if_neg c8] at H
      exact absurd H (by simp)
    ·rw [if_neg c7] at H
     exact absurd H (by simp)
   ·rw [if_neg c6] at H
    have c6b0 := decide_eq_false c6
    clear c6
    simp only [Option.some.injEq, Prod.mk.injEq] at H
    obtain ⟨rfl, rfl⟩ := H
    go_wp2
    go_ret2
    exact rz (bl HB.out)

end Go.Proofs.YtlmnmakkojgfnaaGreatDoor.PFnExactKeptFor
