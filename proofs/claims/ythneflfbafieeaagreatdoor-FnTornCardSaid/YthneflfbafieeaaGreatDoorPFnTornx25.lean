-- written by a program of this session (wip/tool)
import Derived.Test.YthneflfbafieeaaGreatDoorPFnTornx0
import Derived.Test.YthneflfbafieeaaGreatDoorPFnTornx7
import Derived.Test.YthneflfbafieeaaGreatDoorPFnTornx16
import Derived.Test.YthneflfbafieeaaGreatDoorPFnTornx17
import Derived.Test.YthneflfbafieeaaGreatDoorPFnTornx20
import Derived.Test.YthneflfbafieeaaGreatDoorPFnTornx1
import Derived.Test.YthneflfbafieeaaGreatDoorVOwn0
import Derived.Test.YthneflfbafieeaaGreatDoorVOwnOpen
import Derived.WalkKit
import Derived.BigCall
import Derived.Test.YthneflfbafieeaaGreatDoorOwnTr
import Derived.Test.YthneflfbafieeaaGreatDoorVOwnShort
import Derived.Test.YthneflfbafieeaaGreatDoorOwnSq
namespace Go.Proofs.YthneflfbafieeaaGreatDoor.PFnTorn
open Go.RowKit Go.Proofs.YthneflfbafieeaaGreatDoorW.PrintWords Go.Proofs.YthneflfbafieeaaGreatDoorW.PrintLast Go.Proofs.YthneflfbafieeaaGreatDoorW.PrintMore Go.Shelf Go.Proofs.YthneflfbafieeaaGreatDoorOwn
attribute [local go_sem] max2_int min2_int max_two min_two max_three min_three max_four min_four   -- for this text's walks alone
set_option linter.unusedVariables false
set_option linter.unusedSimpArgs false
attribute [local go_sem high] eqA75

/-! ### laws_sameFields: function 54 -/
def laws_sameFields.l0 : Nat → List (S75) → List (S75) → Int → Int → Option (Bool)
 | 0, _, _, _, _ => none
 | k + 1, x0, x1, x12, x13 => if x13 < x12 then (if 0 ≤ x13 then (if x13 < (x0.length : Int) then (if x13 < (x1.length : Int) then (if (!((((rd_T75 x0 x13).f0).toList) == (((rd_T75 x1 x13).f0).toList)) || (!((((rd_T75 x0 x13).f1).toList) == (((rd_T75 x1 x13).f1).toList)))) = true then (some false) else (laws_sameFields.l0 k x0 x1 x12 (wrap64 (x13 + 1)))) else (none)) else (none)) else (none)) else (some true)
def laws_sameFields.f (k : Nat) (l0 : List (S75)) (l1 : List (S75)) : Option (Bool) := if (l0.length : Int) = (l1.length : Int) then (laws_sameFields.l0 k l0 l1 (l0.length : Int) 0) else (some false)
theorem laws_sameFields.mono_l : ∀ k, (∀ y0 y1 y2 y3, LeO (laws_sameFields.l0 k y0 y1 y2 y3) (laws_sameFields.l0 (k + 1) y0 y1 y2 y3))
 | 0 => fun _ _ _ _ r h => by simp [laws_sameFields.l0] at h
 | k + 1 => by
  have ih0 := laws_sameFields.mono_l k
  ·intro y0 y1 y2 y3
   unfold laws_sameFields.l0
   repeat' with_reducible first | exact ih0 _ _ _ _ | exact LeO.refl _ | exact LeO.none _ | refine LeO.ite ?_ ?_ | refine LeO.bind ?_ (fun _ => ?_)
theorem laws_sameFields.mono : ∀ a0 a1 k, LeO (laws_sameFields.f k a0 a1) (laws_sameFields.f (k + 1) a0 a1) := by
 intro a0 a1 k
 have ih0 := laws_sameFields.mono_l k
 unfold laws_sameFields.f
 repeat' with_reducible first | exact ih0 _ _ _ _ | exact LeO.refl _ | exact LeO.none _ | refine LeO.ite ?_ ?_ | refine LeO.bind ?_ (fun _ => ?_)
set_option maxHeartbeats 8000000 in
set_option maxRecDepth 100000 in
theorem laws_sameFields.calls (k : Nat) (A0 : Option Addr) (c0 : Nat) (l0 : List (S75)) (A1 : Option Addr) (c1 : Nat) (l1 : List (S75)) (r : Bool) (w : World) (hr0 : Kd.C k75 w A0 l0.length l0) (hc0 : l0.length ≤ c0) (hr1 : Kd.C k75 w A1 l1.length l1) (hc1 : l1.length ≤ c1) (h : laws_sameFields.f k l0 l1 = some r) :
  Calls Tryz.prog 54 #[.slice A0 l0.length c0, .slice A1 l1.length c1] w fun e w' => e = .returned (.bool r) ∧ Drawn0 w w' := by
 have hu75 := Tryz.underlying75
 have HR0 := ak hr0
 have HC0 := ak hc0
 clear hr0 hc0
 have HR1 := ak hr1
 have HC1 := ak hc1
 clear hr1 hc1
 have H : (if (l0.length : Int) = (l1.length : Int) then (laws_sameFields.l0 k l0 l1 (l0.length : Int) 0) else (some false)) = some r := h
 clear h
 by_cases c3 : (l0.length : Int) = (l1.length : Int)
 ·rw [if_pos c3] at H
  have c3b0 : ((l0.length : Int) == (l1.length : Int)) = true := beq_iff_eq.mpr c3
  have c3b1 : ((l0.length : Int) != (l1.length : Int)) = false := bne_eq_false_iff_eq.mpr c3
  have c3b2 : (l0.length == l1.length) = true := by first | simpa using c3 | (simp at c3 ⊢; omega)
  clear c3
  have H' := ak H
  clear H
  go_enter Tryz.func54, Tryz.ntmps54
  go_wp2
  repeat (go_quiet (fail); try go_wp2)
  go_loopg [13] k (fun kq v13 w' => ∃ (x13_1 : Int), v13 = .int .i64 x13_1 ∧ Aside0 (laws_sameFields.l0 kq l0 l1 (l0.length : Int) x13_1 = some r) ∧ Aside0 (kq ≤ k) ∧ Drawn0 w w')
  case atStart => exact ⟨(0), (by first | rfl | (simp; done) | (simp [*]; done)), H', ⟨Nat.le_refl _⟩, by repeat (first | exact Drawn0.refl _ | apply Drawn0.step)⟩
  case round =>
   clear H'
   try clear c1
   try clear p2
   try clear c3
   try clear c3b0
   try clear c3b1
   try clear c3b2
   obtain ⟨x13_1, rfl, HA, HK1, ⟨m1, rfl⟩⟩ := hrel
   cases gk with
   | zero => exact absurd HA.out (by simp [laws_sameFields.l0])
   | succ k1 =>
    have H := HA.out
    clear HA
    simp only [laws_sameFields.l0] at H
    by_cases c4 : x13_1 < (l0.length : Int)
    ·rw [if_pos c4] at H
     have c4b0 : decide (x13_1 < (l0.length : Int)) = true := decide_eq_true c4
     clear c4
     by_cases c5 : 0 ≤ x13_1
     ·rw [if_pos c5] at H
      have c5b0 : decide (0 ≤ x13_1) = true := decide_eq_true c5
      clear c5
      by_cases c6 : x13_1 < (l0.length : Int)
      ·rw [if_pos c6] at H
       have c6b0 : decide (x13_1 < (l0.length : Int)) = true := decide_eq_true c6
       clear c6
       by_cases c7 : x13_1 < (l1.length : Int)
       ·rw [if_pos c7] at H
        have c7b0 : decide (x13_1 < (l1.length : Int)) = true := decide_eq_true c7
        clear c7
        by_cases c8 : (!((((rd_T75 l0 x13_1).f0).toList) == (((rd_T75 l1 x13_1).f0).toList)) || (!((((rd_T75 l0 x13_1).f1).toList) == (((rd_T75 l1 x13_1).f1).toList)))) = true
        ·rw [if_pos c8] at H
         have c8b0 : (!((((rd_T75 l0 x13_1).f0).toList) == (((rd_T75 l1 x13_1).f0).toList)) || (!((((rd_T75 l0 x13_1).f1).toList) == (((rd_T75 l1 x13_1).f1).toList)))) = true := c8
         clear c8
         obtain rfl := Option.some.inj H
         have p552 : 0 ≤ (x13_1 : Int) := od
         have q552 : x13_1 < (l0.length : Int) := od
         obtain ⟨ad552, e552, hx552_0, hx552_1⟩ := at_T75 HR0.out x13_1 p552 q552
         cases e552
         replace p552 := eq_true p552
         replace q552 := eq_true q552
         have p553 : 0 ≤ (x13_1 : Int) := od
         have q553 : x13_1 < (l1.length : Int) := od
         obtain ⟨ad553, e553, hx553_0, hx553_1⟩ := at_T75 HR1.out x13_1 p553 q553
         cases e553
         replace p553 := eq_true p553
         replace q553 := eq_true q553
         go_wp2
         repeat (go_quiet (fail); try go_wp2)
         go_ret
         exact ⟨by first | rfl | (simp; done) | (simp [*]; done), by repeat (first | exact Drawn0.refl _ | apply Drawn0.step)⟩
        ·rw [if_neg c8] at H
         have c8b0 : (!((((rd_T75 l0 x13_1).f0).toList) == (((rd_T75 l1 x13_1).f0).toList)) || (!((((rd_T75 l0 x13_1).f1).toList) == (((rd_T75 l1 x13_1).f1).toList)))) = false := by simpa using c8
         clear c8
         have H' := ak H
         clear H
         have p552 : 0 ≤ (x13_1 : Int) := od
         have q552 : x13_1 < (l0.length : Int) := od
         obtain ⟨ad552, e552, hx552_0, hx552_1⟩ := at_T75 HR0.out x13_1 p552 q552
         cases e552
         replace p552 := eq_true p552
         replace q552 := eq_true q552
         have p553 : 0 ≤ (x13_1 : Int) := od
         have q553 : x13_1 < (l1.length : Int) := od
         obtain ⟨ad553, e553, hx553_0, hx553_1⟩ := at_T75 HR1.out x13_1 p553 q553
         cases e553
         replace p553 := eq_true p553
         replace q553 := eq_true q553
         go_wp2
         repeat (go_quiet (fail); try go_wp2)
         go_roundg k1
         case measure => have := HK1.out; omega
         case rel => exact ⟨(wrap64 (x13_1 + 1)), (by first | rfl | (simp; done) | (simp [*]; done)), H', ⟨by have := HK1.out; omega⟩, by repeat (first | exact Drawn0.refl _ | apply Drawn0.step)⟩
       ·rw [if_neg c7] at H
        exact absurd H (by simp)
      ·rw [if_neg c6] at H
       exact absurd H (by simp)
     ·rw [if_neg c5] at H
      exact absurd H (by simp)
    ·rw [if_neg c4] at H
     have c4b0 : decide (x13_1 < (l0.length : Int)) = false := decide_eq_false c4
     clear c4
     obtain rfl := Option.some.inj H
     go_wp2
     repeat (go_quiet (fail); try go_wp2)
     go_ret
     exact ⟨by first | rfl | (simp; done) | (simp [*]; done), by repeat (first | exact Drawn0.refl _ | apply Drawn0.step)⟩
 ·rw [if_neg c3] at H
  have c3b0 : ((l0.length : Int) == (l1.length : Int)) = false := beq_eq_false_iff_ne.mpr c3
  have c3b1 : ((l0.length : Int) != (l1.length : Int)) = true := bne_iff_ne.mpr c3
  have c3b2 : (l0.length == l1.length) = false := by first | simpa using c3 | (simp at c3 ⊢; omega)
  obtain rfl := Option.some.inj H
  go_enter Tryz.func54, Tryz.ntmps54
  go_wp2
  repeat (go_quiet (fail); try go_wp2)
  go_ret
  exact ⟨by first | rfl | (simp; done) | (simp [*]; done), by repeat (first | exact Drawn0.refl _ | apply Drawn0.step)⟩

/-! ### laws_sameRequests: function 21 -/
def laws_sameRequests.f (k : Nat) (a0_0 : ByteArray) (a0_1 : ByteArray) (l0_2 : List (S75)) (a0_3 : ByteArray) (a1_0 : ByteArray) (a1_1 : ByteArray) (l1_2 : List (S75)) (a1_3 : ByteArray) : Option (Bool) := if a0_0.toList = a1_0.toList then (if a0_1.toList = a1_1.toList then (if a0_3.toList = a1_3.toList then ((laws_sameFields.f k l0_2 l1_2).bind fun t556 => (some t556)) else (some false)) else (some false)) else (some false)
theorem laws_sameRequests.mono : ∀ a0 a1 a2 a3 a4 a5 a6 a7 k, LeO (laws_sameRequests.f k a0 a1 a2 a3 a4 a5 a6 a7) (laws_sameRequests.f (k + 1) a0 a1 a2 a3 a4 a5 a6 a7) := by
 intro a0 a1 a2 a3 a4 a5 a6 a7 k
 unfold laws_sameRequests.f
 repeat' with_reducible first | exact laws_sameFields.mono _ _ _ | exact LeO.refl _ | exact LeO.none _ | refine LeO.ite ?_ ?_ | refine LeO.bind ?_ (fun _ => ?_)
set_option maxHeartbeats 8000000 in
set_option maxRecDepth 100000 in
theorem laws_sameRequests.calls (k : Nat) (a0_0 : ByteArray) (a0_1 : ByteArray) (A0_2 : Option Addr) (c0_2 : Nat) (l0_2 : List (S75)) (a0_3 : ByteArray) (a1_0 : ByteArray) (a1_1 : ByteArray) (A1_2 : Option Addr) (c1_2 : Nat) (l1_2 : List (S75)) (a1_3 : ByteArray) (r : Bool) (w : World) (hr0_2 : Kd.C k75 w A0_2 l0_2.length l0_2) (hc0_2 : l0_2.length ≤ c0_2) (hr1_2 : Kd.C k75 w A1_2 l1_2.length l1_2) (hc1_2 : l1_2.length ≤ c1_2) (h : laws_sameRequests.f k a0_0 a0_1 l0_2 a0_3 a1_0 a1_1 l1_2 a1_3 = some r) :
  Calls Tryz.prog 21 #[.agg #[.string a0_0, .string a0_1, .slice A0_2 l0_2.length c0_2, .string a0_3], .agg #[.string a1_0, .string a1_1, .slice A1_2 l1_2.length c1_2, .string a1_3]] w fun e w' => e = .returned (.bool r) ∧ Below w.heap.size w w' := by
 have hu24 := Tryz.underlying24
 have HR0_2 := ak hr0_2
 have HC0_2 := ak hc0_2
 clear hr0_2 hc0_2
 have HR1_2 := ak hr1_2
 have HC1_2 := ak hc1_2
 clear hr1_2 hc1_2
 have HB := ak (Below.refl w.heap.size w)
 have H : (if a0_0.toList = a1_0.toList then (if a0_1.toList = a1_1.toList then (if a0_3.toList = a1_3.toList then ((laws_sameFields.f k l0_2 l1_2).bind fun t556 => (some t556)) else (some false)) else (some false)) else (some false)) = some r := h
 clear h
 by_cases c3 : a0_0.toList = a1_0.toList
 ·rw [if_pos c3] at H
  have c3b0 : (a0_0.toList == a1_0.toList) = true := beq_iff_eq.mpr c3
  have c3b1 : (a0_0.toList != a1_0.toList) = false := bne_eq_false_iff_eq.mpr c3
  clear c3
  by_cases c4 : a0_1.toList = a1_1.toList
  ·rw [if_pos c4] at H
   have c4b0 : (a0_1.toList == a1_1.toList) = true := beq_iff_eq.mpr c4
   have c4b1 : (a0_1.toList != a1_1.toList) = false := bne_eq_false_iff_eq.mpr c4
   clear c4
   by_cases c5 : a0_3.toList = a1_3.toList
   ·rw [if_pos c5] at H
    have c5b0 : (a0_3.toList == a1_3.toList) = true := beq_iff_eq.mpr c5
    have c5b1 : (a0_3.toList != a1_3.toList) = false := bne_eq_false_iff_eq.mpr c5
    clear c5
    replace H := bs H
    obtain ⟨t556, A6, H⟩ := H
    try dsimp only at H
    obtain rfl := Option.some.inj H
    go_enter Tryz.func21, Tryz.ntmps21
    go_wp2_with (first | ((with_reducible refine gd 2 ?_); refine bE 2 #[.string a0_0, .string a0_1, .slice A0_2 l0_2.length c0_2, .string a0_3] 24 ?_; intro gb554 hg w7 hbox hb; have BK554 := ak hbox; have GW554 := gs hg (bl HB.out); have GE554 := gs hg (bl HB.out); replace HB := ak (below_step (bl HB.out) hb); clear hb hbox hg) | ((with_reducible refine gd 3 ?_); refine bE 3 #[.string a1_0, .string a1_1, .slice A1_2 l1_2.length c1_2, .string a1_3] 24 ?_; intro gb555 hg w8 hbox hb; have BK555 := ak hbox; have GW555 := gs hg (bl1 HB.out GE554.out); have GE555 := gs hg (bl1 HB.out GE554.out); replace HB := ak (below_step (bl1 HB.out GE554.out) hb); have NB554_555 := nl hg BK554.out; have NB555_554 := ng hg BK554.out; replace BK554 := ak (blk_below (bk BK554.out) hb); clear hb hbox hg; have hnb9 := NB554_555.out; have hnc9 := NB555_554.out; obtain ⟨hcz10_0, hcz10_1, hcz10_2, hcz10_3, hfz10_0, hfz10_1, hfz10_2, hfz10_3⟩ := b4 BK554.out; obtain ⟨hcz11_0, hcz11_1, hcz11_2, hcz11_3, hfz11_0, hfz11_1, hfz11_2, hfz11_3⟩ := b4 BK555.out) | (go_at_call 54; (with_reducible refine (laws_sameFields.calls k _ _ l0_2 _ _ l1_2 t556 _ ?side1 ?side2 ?side3 ?side4 A6.out).mono ?_); (case side1 => exact kc (Kd.C_below HR0_2.out HB.out)); (case side2 => exact HC0_2.out); (case side3 => exact kc (Kd.C_below HR1_2.out HB.out)); (case side4 => exact HC1_2.out); rintro e w' ⟨rfl, ⟨nd, rfl⟩⟩))
    go_ret
    exact ⟨by first | rfl | (simp [errW_none, errW_some] <;> rfl) | (simp [*, errW_none, errW_some] <;> rfl), bl2 HB.out GE554.out GE555.out⟩
   ·rw [if_neg c5] at H
    have c5b0 : (a0_3.toList == a1_3.toList) = false := beq_eq_false_iff_ne.mpr c5
    have c5b1 : (a0_3.toList != a1_3.toList) = true := bne_iff_ne.mpr c5
    obtain rfl := Option.some.inj H
    go_enter Tryz.func21, Tryz.ntmps21
    go_wp2_with (first | ((with_reducible refine gd 2 ?_); refine bE 2 #[.string a0_0, .string a0_1, .slice A0_2 l0_2.length c0_2, .string a0_3] 24 ?_; intro gb554 hg w12 hbox hb; have BK554 := ak hbox; have GW554 := gs hg (bl HB.out); have GE554 := gs hg (bl HB.out); replace HB := ak (below_step (bl HB.out) hb); clear hb hbox hg) | ((with_reducible refine gd 3 ?_); refine bE 3 #[.string a1_0, .string a1_1, .slice A1_2 l1_2.length c1_2, .string a1_3] 24 ?_; intro gb555 hg w13 hbox hb; have BK555 := ak hbox; have GW555 := gs hg (bl1 HB.out GE554.out); have GE555 := gs hg (bl1 HB.out GE554.out); replace HB := ak (below_step (bl1 HB.out GE554.out) hb); have NB554_555 := nl hg BK554.out; have NB555_554 := ng hg BK554.out; replace BK554 := ak (blk_below (bk BK554.out) hb); clear hb hbox hg; have hnb14 := NB554_555.out; have hnc14 := NB555_554.out; obtain ⟨hcz15_0, hcz15_1, hcz15_2, hcz15_3, hfz15_0, hfz15_1, hfz15_2, hfz15_3⟩ := b4 BK554.out; obtain ⟨hcz16_0, hcz16_1, hcz16_2, hcz16_3, hfz16_0, hfz16_1, hfz16_2, hfz16_3⟩ := b4 BK555.out))
    go_ret
    exact ⟨by first | rfl | (simp [errW_none, errW_some] <;> rfl) | (simp [*, errW_none, errW_some] <;> rfl), bl2 HB.out GE554.out GE555.out⟩
  ·rw [if_neg c4] at H
   have c4b0 : (a0_1.toList == a1_1.toList) = false := beq_eq_false_iff_ne.mpr c4
   have c4b1 : (a0_1.toList != a1_1.toList) = true := bne_iff_ne.mpr c4
   obtain rfl := Option.some.inj H
   go_enter Tryz.func21, Tryz.ntmps21
   go_wp2_with (first | ((with_reducible refine gd 2 ?_); refine bE 2 #[.string a0_0, .string a0_1, .slice A0_2 l0_2.length c0_2, .string a0_3] 24 ?_; intro gb554 hg w17 hbox hb; have BK554 := ak hbox; have GW554 := gs hg (bl HB.out); have GE554 := gs hg (bl HB.out); replace HB := ak (below_step (bl HB.out) hb); clear hb hbox hg) | ((with_reducible refine gd 3 ?_); refine bE 3 #[.string a1_0, .string a1_1, .slice A1_2 l1_2.length c1_2, .string a1_3] 24 ?_; intro gb555 hg w18 hbox hb; have BK555 := ak hbox; have GW555 := gs hg (bl1 HB.out GE554.out); have GE555 := gs hg (bl1 HB.out GE554.out); replace HB := ak (below_step (bl1 HB.out GE554.out) hb); have NB554_555 := nl hg BK554.out; have NB555_554 := ng hg BK554.out; replace BK554 := ak (blk_below (bk BK554.out) hb); clear hb hbox hg; have hnb19 := NB554_555.out; have hnc19 := NB555_554.out; obtain ⟨hcz20_0, hcz20_1, hcz20_2, hcz20_3, hfz20_0, hfz20_1, hfz20_2, hfz20_3⟩ := b4 BK554.out; obtain ⟨hcz21_0, hcz21_1, hcz21_2, hcz21_3, hfz21_0, hfz21_1, hfz21_2, hfz21_3⟩ := b4 BK555.out))
   go_ret
   exact ⟨by first | rfl | (simp [errW_none, errW_some] <;> rfl) | (simp [*, errW_none, errW_some] <;> rfl), bl2 HB.out GE554.out GE555.out⟩
 ·rw [if_neg c3] at H
  have c3b0 : (a0_0.toList == a1_0.toList) = false := beq_eq_false_iff_ne.mpr c3
  have c3b1 : (a0_0.toList != a1_0.toList) = true := bne_iff_ne.mpr c3
  obtain rfl := Option.some.inj H
  go_enter Tryz.func21, Tryz.ntmps21
  go_wp2_with (first | ((with_reducible refine gd 2 ?_); refine bE 2 #[.string a0_0, .string a0_1, .slice A0_2 l0_2.length c0_2, .string a0_3] 24 ?_; intro gb554 hg w22 hbox hb; have BK554 := ak hbox; have GW554 := gs hg (bl HB.out); have GE554 := gs hg (bl HB.out); replace HB := ak (below_step (bl HB.out) hb); clear hb hbox hg) | ((with_reducible refine gd 3 ?_); refine bE 3 #[.string a1_0, .string a1_1, .slice A1_2 l1_2.length c1_2, .string a1_3] 24 ?_; intro gb555 hg w23 hbox hb; have BK555 := ak hbox; have GW555 := gs hg (bl1 HB.out GE554.out); have GE555 := gs hg (bl1 HB.out GE554.out); replace HB := ak (below_step (bl1 HB.out GE554.out) hb); have NB554_555 := nl hg BK554.out; have NB555_554 := ng hg BK554.out; replace BK554 := ak (blk_below (bk BK554.out) hb); clear hb hbox hg; have hnb24 := NB554_555.out; have hnc24 := NB555_554.out; obtain ⟨hcz25_0, hcz25_1, hcz25_2, hcz25_3, hfz25_0, hfz25_1, hfz25_2, hfz25_3⟩ := b4 BK554.out; obtain ⟨hcz26_0, hcz26_1, hcz26_2, hcz26_3, hfz26_0, hfz26_1, hfz26_2, hfz26_3⟩ := b4 BK555.out))
  go_ret
  exact ⟨by first | rfl | (simp [errW_none, errW_some] <;> rfl) | (simp [*, errW_none, errW_some] <;> rfl), bl2 HB.out GE554.out GE555.out⟩

/-! ### spec_ResponseBytes: function 56 -/
def spec_ResponseBytes.f (k : Nat) (a0_0 : Int) (a0_1 : ByteArray) (l0_2 : List (S75)) (a0_3 : ByteArray) : Option (ByteArray × Bool) := (spec_GoodResponse.f k a0_0 a0_1 l0_2 a0_3).bind fun t599 => (if t599 = true then ((spec_l4Status.f k a0_0 a0_1 l0_2 a0_3).bind fun t600 => ((spec_l4Head.f k t600 l0_2).bind fun t601 => (if t601.size + a0_3.size ≤ 9223372036854775807 then (some (t601 ++ a0_3, true)) else (none)))) else (some ((⟨#[]⟩ : ByteArray), false)))
theorem spec_ResponseBytes.mono : ∀ a0 a1 a2 a3 k, LeO (spec_ResponseBytes.f k a0 a1 a2 a3) (spec_ResponseBytes.f (k + 1) a0 a1 a2 a3) := by
 intro a0 a1 a2 a3 k
 unfold spec_ResponseBytes.f
 repeat' with_reducible first | exact spec_GoodResponse.mono _ _ _ _ _ | exact spec_l4Head.mono _ _ _ | exact spec_l4Status.mono _ _ _ _ _ | exact LeO.refl _ | exact LeO.none _ | refine LeO.ite ?_ ?_ | refine LeO.bind ?_ (fun _ => ?_)
def spec_ResponseBytes.T3 : Bool × List (List Nat × List Nat) := (true, [([], []), ([0], [0]), ([], []), ([2], [2]), ([1, 3, 1], [1, 3]), ([], []), ([5], [5]), ([4, 6], [4, 6]), ([7, 4, 0, 1, 2, 3, 4, 5, 6, 7], [7]), ([8, 0, 1, 2, 3, 4, 5, 6, 7, 8], [])])
def spec_ResponseBytes.B3 : List Nat := [0, 1, 0, 4, 15, 0, 32, 127, 255, 511]
theorem spec_ResponseBytes.tab3 : rtab .any (opsOf Tryz.f56 3) = spec_ResponseBytes.T3 := by kernel_rfl
theorem spec_ResponseBytes.bits3 : waitsOk spec_ResponseBytes.T3.2 spec_ResponseBytes.B3 = true := by kernel_rfl
set_option maxHeartbeats 8000000 in
set_option maxRecDepth 100000 in
theorem spec_ResponseBytes.calls (k : Nat) (a0_0 : Int) (a0_1 : ByteArray) (A0_2 : Option Addr) (c0_2 : Nat) (l0_2 : List (S75)) (a0_3 : ByteArray) (r1 : ByteArray) (r2 : Bool) (w : World) (hr0_2 : Kd.C k75 w A0_2 l0_2.length l0_2) (hc0_2 : l0_2.length ≤ c0_2) (h : spec_ResponseBytes.f k a0_0 a0_1 l0_2 a0_3 = some (r1, r2)) :
  Calls Tryz.prog 56 #[.agg #[.int .i64 a0_0, .string a0_1, .slice A0_2 l0_2.length c0_2, .string a0_3]] w fun e w' => e = .returned (.tuple #[.string r1, .bool r2]) ∧ Below w.heap.size w w' := by
 have hu31 := Tryz.underlying31
 have HR0_2 := ak hr0_2
 have HC0_2 := ak hc0_2
 clear hr0_2 hc0_2
 have HB := ak (Below.refl w.heap.size w)
 have H : ((spec_GoodResponse.f k a0_0 a0_1 l0_2 a0_3).bind fun t599 => (if t599 = true then ((spec_l4Status.f k a0_0 a0_1 l0_2 a0_3).bind fun t600 => ((spec_l4Head.f k t600 l0_2).bind fun t601 => (if t601.size + a0_3.size ≤ 9223372036854775807 then (some (t601 ++ a0_3, true)) else (none)))) else (some ((⟨#[]⟩ : ByteArray), false)))) = some (r1, r2) := h
 clear h
 replace H := bs H
 obtain ⟨t599, A2, H⟩ := H
 try dsimp only at H
 by_cases c3 : t599 = true
 ·subst c3
  rw [if_pos rfl] at H
  replace H := bs H
  obtain ⟨t600, A4, H⟩ := H
  try dsimp only at H
  replace H := bs H
  obtain ⟨t601, A5, H⟩ := H
  try dsimp only at H
  by_cases c6 : t601.size + a0_3.size ≤ 9223372036854775807
  ·rw [if_pos c6] at H
   have c6b0 := eq_true c6
   have c6b1 : decide (t601.size + a0_3.size ≤ 9223372036854775807) = true := decide_eq_true c6
   try have c6b2 : (9223372036854775807 < t601.size + a0_3.size) = False := eq_false (Nat.not_lt.2 c6)
   simp only [Option.some.injEq, Prod.mk.injEq] at H
   obtain ⟨rfl, rfl⟩ := H
   go_enter Tryz.func56, Tryz.ntmps56
   try go_wp2_with (first | ((with_reducible refine gd 1 ?_); refine bE 1 #[.int .i64 a0_0, .string a0_1, .slice A0_2 l0_2.length c0_2, .string a0_3] 31 ?_; intro gb598 hg w7 hbox hb; have BK598 := ak hbox; have GW598 := gs hg (bl HB.out); have GE598 := gs hg (bl HB.out); replace HB := ak (below_step (bl HB.out) hb); clear hb hbox hg; obtain ⟨hcz8_0, hcz8_1, hcz8_2, hcz8_3, hfz8_0, hfz8_1, hfz8_2, hfz8_3⟩ := b4 BK598.out) | ((with_reducible refine gc 40 ?_); refine gL 40 Tryz.func40 (some 5) #[.agg #[.int .i64 a0_0, .string a0_1, .slice A0_2 l0_2.length c0_2, .string a0_3]] ?_; (with_reducible refine (spec_GoodResponse.calls k a0_0 a0_1 _ _ l0_2 a0_3 true _ ?side1 ?side2 A2.out).mono ?_); (case side1 => exact kc (Kd.C_below HR0_2.out HB.out)); (case side2 => exact HC0_2.out); rintro e w9 ⟨rfl, hb⟩; refine ⟨_, rfl, ?_⟩; replace BK598 := ak (blk_below (bk BK598.out) hb); replace HB := ak (below_step (bl1 HB.out GE598.out) hb); clear hb))
   replace BK598 := ak (blk_drew BK598.out)
   replace HB := ak (below_drew1 HB.out)
   refine start_ (n := 10) (S := fun w' => w'.cell? ⟨gb598, 0, none⟩ = some (.int .i64 a0_0) ∧ w'.cell? ⟨gb598, 1, none⟩ = some (.string a0_1) ∧ w'.cell? ⟨gb598, 2, none⟩ = some (.slice A0_2 l0_2.length c0_2) ∧ w'.cell? ⟨gb598, 3, none⟩ = some (.string a0_3)) (ds := []) #[false, false, false, false, false, false, false, false, false, false] (by kernel_rfl) rfl rfl ⟨bc0 BK598.out, bc1 BK598.out, bc2 BK598.out, bc3 BK598.out⟩ (fun hHeld => ?_); refine with_tabW spec_ResponseBytes.tab3 spec_ResponseBytes.bits3 (fun HT_ HW_ => ?_)
   generalize w9.drew = w10 at BK598 HB hHeld ⊢
   refine pu 2 (some 9) HT_ ?_
   refine pu 5 (some 12) HT_ ?_
   refine tk 0 (some 7) HT_ HW_ hHeld ?_
   refine tk 3 (some 10) HT_ HW_ hHeld ?_
   refine tk 6 (some 13) HT_ HW_ hHeld ?_
   refine on 1 (some 8) HT_ (fun K hK => ?_)
   refine gO Tryz.func74 #[.agg #[.int .i64 a0_0, .string a0_1, .slice A0_2 l0_2.length c0_2, .string a0_3]] ?_
   with_reducible refine (spec_l4Status.calls k a0_0 a0_1 _ _ l0_2 a0_3 t600 _ ?side1 ?side2 A4.out).mono ?_
   (case side1 => exact kc (Kd.C_below HR0_2.out HB.out))
   (case side2 => exact HC0_2.out)
   rintro e w11 ⟨rfl, hb⟩
   refine ⟨_, rfl, ?_⟩
   replace BK598 := ak (blk_below (bk BK598.out) hb)
   replace HB := ak (below_step (bl1 HB.out GE598.out) hb)
   clear hb
   refine hK.out _ _ ⟨bc0 BK598.out, bc1 BK598.out, bc2 BK598.out, bc3 BK598.out⟩ (fun hHeld => ?_)
   clear hK K
   refine nr (some 8) ?_
   refine on 4 (some 11) HT_ (fun K hK => ?_)
   refine gO Tryz.func50 #[.string t600, .slice A0_2 l0_2.length c0_2] ?_
   with_reducible refine (spec_l4Head.calls k t600 _ _ l0_2 t601 _ ?side1 ?side2 A5.out).mono ?_
   (case side1 => exact kc (Kd.C_below HR0_2.out HB.out))
   (case side2 => exact HC0_2.out)
   rintro e w12 ⟨rfl, hb⟩
   refine ⟨_, rfl, ?_⟩
   replace BK598 := ak (blk_below (bk BK598.out) hb)
   replace HB := ak (below_step (bl1 HB.out GE598.out) hb)
   clear hb
   refine hK.out _ _ ⟨bc0 BK598.out, bc1 BK598.out, bc2 BK598.out, bc3 BK598.out⟩ (fun hHeld => ?_)
   clear hK K
   refine nr (some 11) ?_
   refine pu 7 (some 14) HT_ ?_
   refine pu 8 (some 2) HT_ ?_
   refine pu 9 (some 3) HT_ ?_
   refine done_ (done_of HT_.out (by kernel_rfl)) ?_
   try go_wp2
   go_ret2
   exact ⟨by first | rfl | (simp [errW_none, errW_some] <;> rfl) | (simp [*, errW_none, errW_some] <;> rfl), bl1 HB.out GE598.out⟩
  ·rw [if_neg c6] at H
   exact absurd H (by simp)
 ·replace c3 := Bool.eq_false_iff.mpr c3
  subst c3
  rw [if_neg ff] at H
  simp only [Option.some.injEq, Prod.mk.injEq] at H
  obtain ⟨rfl, rfl⟩ := H
  go_enter Tryz.func56, Tryz.ntmps56
  go_wp2_with (first | ((with_reducible refine gd 1 ?_); refine bE 1 #[.int .i64 a0_0, .string a0_1, .slice A0_2 l0_2.length c0_2, .string a0_3] 31 ?_; intro gb598 hg w13 hbox hb; have BK598 := ak hbox; have GW598 := gs hg (bl HB.out); have GE598 := gs hg (bl HB.out); replace HB := ak (below_step (bl HB.out) hb); clear hb hbox hg; obtain ⟨hcz14_0, hcz14_1, hcz14_2, hcz14_3, hfz14_0, hfz14_1, hfz14_2, hfz14_3⟩ := b4 BK598.out) | ((with_reducible refine gc 40 ?_); refine gL 40 Tryz.func40 (some 5) #[.agg #[.int .i64 a0_0, .string a0_1, .slice A0_2 l0_2.length c0_2, .string a0_3]] ?_; (with_reducible refine (spec_GoodResponse.calls k a0_0 a0_1 _ _ l0_2 a0_3 false _ ?side1 ?side2 A2.out).mono ?_); (case side1 => exact kc (Kd.C_below HR0_2.out HB.out)); (case side2 => exact HC0_2.out); rintro e w15 ⟨rfl, hb⟩; refine ⟨_, rfl, ?_⟩; replace BK598 := ak (blk_below (bk BK598.out) hb); replace HB := ak (below_step (bl1 HB.out GE598.out) hb); clear hb))
  go_ret2
  exact ⟨by first | rfl | (simp [errW_none, errW_some] <;> rfl) | (simp [*, errW_none, errW_some] <;> rfl), bl1 HB.out GE598.out⟩

/-! ### laws_sameAnswers: function 23 -/
def laws_sameAnswers.f (k : Nat) (a0_0 : Int) (a0_1 : ByteArray) (l0_2 : List (S75)) (a0_3 : ByteArray) (a1_0 : Int) (a1_1 : ByteArray) (l1_2 : List (S75)) (a1_3 : ByteArray) : Option (Bool) := if a0_0 = a1_0 then (if a0_1.toList = a1_1.toList then (if a0_3.toList = a1_3.toList then ((laws_sameFields.f k l0_2 l1_2).bind fun t619 => (some t619)) else (some false)) else (some false)) else (some false)
theorem laws_sameAnswers.mono : ∀ a0 a1 a2 a3 a4 a5 a6 a7 k, LeO (laws_sameAnswers.f k a0 a1 a2 a3 a4 a5 a6 a7) (laws_sameAnswers.f (k + 1) a0 a1 a2 a3 a4 a5 a6 a7) := by
 intro a0 a1 a2 a3 a4 a5 a6 a7 k
 unfold laws_sameAnswers.f
 repeat' with_reducible first | exact laws_sameFields.mono _ _ _ | exact LeO.refl _ | exact LeO.none _ | refine LeO.ite ?_ ?_ | refine LeO.bind ?_ (fun _ => ?_)
set_option maxHeartbeats 8000000 in
set_option maxRecDepth 100000 in
theorem laws_sameAnswers.calls (k : Nat) (a0_0 : Int) (a0_1 : ByteArray) (A0_2 : Option Addr) (c0_2 : Nat) (l0_2 : List (S75)) (a0_3 : ByteArray) (a1_0 : Int) (a1_1 : ByteArray) (A1_2 : Option Addr) (c1_2 : Nat) (l1_2 : List (S75)) (a1_3 : ByteArray) (r : Bool) (w : World) (hr0_2 : Kd.C k75 w A0_2 l0_2.length l0_2) (hc0_2 : l0_2.length ≤ c0_2) (hr1_2 : Kd.C k75 w A1_2 l1_2.length l1_2) (hc1_2 : l1_2.length ≤ c1_2) (h : laws_sameAnswers.f k a0_0 a0_1 l0_2 a0_3 a1_0 a1_1 l1_2 a1_3 = some r) :
  Calls Tryz.prog 23 #[.agg #[.int .i64 a0_0, .string a0_1, .slice A0_2 l0_2.length c0_2, .string a0_3], .agg #[.int .i64 a1_0, .string a1_1, .slice A1_2 l1_2.length c1_2, .string a1_3]] w fun e w' => e = .returned (.bool r) ∧ Below w.heap.size w w' := by
 have hu31 := Tryz.underlying31
 have HR0_2 := ak hr0_2
 have HC0_2 := ak hc0_2
 clear hr0_2 hc0_2
 have HR1_2 := ak hr1_2
 have HC1_2 := ak hc1_2
 clear hr1_2 hc1_2
 have HB := ak (Below.refl w.heap.size w)
 have H : (if a0_0 = a1_0 then (if a0_1.toList = a1_1.toList then (if a0_3.toList = a1_3.toList then ((laws_sameFields.f k l0_2 l1_2).bind fun t619 => (some t619)) else (some false)) else (some false)) else (some false)) = some r := h
 clear h
 by_cases c3 : a0_0 = a1_0
 ·rw [if_pos c3] at H
  have c3b0 : (a0_0 == a1_0) = true := beq_iff_eq.mpr c3
  have c3b1 : (a0_0 != a1_0) = false := bne_eq_false_iff_eq.mpr c3
  clear c3
  by_cases c4 : a0_1.toList = a1_1.toList
  ·rw [if_pos c4] at H
   have c4b0 : (a0_1.toList == a1_1.toList) = true := beq_iff_eq.mpr c4
   have c4b1 : (a0_1.toList != a1_1.toList) = false := bne_eq_false_iff_eq.mpr c4
   clear c4
   by_cases c5 : a0_3.toList = a1_3.toList
   ·rw [if_pos c5] at H
    have c5b0 : (a0_3.toList == a1_3.toList) = true := beq_iff_eq.mpr c5
    have c5b1 : (a0_3.toList != a1_3.toList) = false := bne_eq_false_iff_eq.mpr c5
    clear c5
    replace H := bs H
    obtain ⟨t619, A6, H⟩ := H
    try dsimp only at H
    obtain rfl := Option.some.inj H
    go_enter Tryz.func23, Tryz.ntmps23
    go_wp2_with (first | ((with_reducible refine gd 2 ?_); refine bE 2 #[.int .i64 a0_0, .string a0_1, .slice A0_2 l0_2.length c0_2, .string a0_3] 31 ?_; intro gb617 hg w7 hbox hb; have BK617 := ak hbox; have GW617 := gs hg (bl HB.out); have GE617 := gs hg (bl HB.out); replace HB := ak (below_step (bl HB.out) hb); clear hb hbox hg) | ((with_reducible refine gd 3 ?_); refine bE 3 #[.int .i64 a1_0, .string a1_1, .slice A1_2 l1_2.length c1_2, .string a1_3] 31 ?_; intro gb618 hg w8 hbox hb; have BK618 := ak hbox; have GW618 := gs hg (bl1 HB.out GE617.out); have GE618 := gs hg (bl1 HB.out GE617.out); replace HB := ak (below_step (bl1 HB.out GE617.out) hb); have NB617_618 := nl hg BK617.out; have NB618_617 := ng hg BK617.out; replace BK617 := ak (blk_below (bk BK617.out) hb); clear hb hbox hg; have hnb9 := NB617_618.out; have hnc9 := NB618_617.out; obtain ⟨hcz10_0, hcz10_1, hcz10_2, hcz10_3, hfz10_0, hfz10_1, hfz10_2, hfz10_3⟩ := b4 BK617.out; obtain ⟨hcz11_0, hcz11_1, hcz11_2, hcz11_3, hfz11_0, hfz11_1, hfz11_2, hfz11_3⟩ := b4 BK618.out) | (go_at_call 54; (with_reducible refine (laws_sameFields.calls k _ _ l0_2 _ _ l1_2 t619 _ ?side1 ?side2 ?side3 ?side4 A6.out).mono ?_); (case side1 => exact kc (Kd.C_below HR0_2.out HB.out)); (case side2 => exact HC0_2.out); (case side3 => exact kc (Kd.C_below HR1_2.out HB.out)); (case side4 => exact HC1_2.out); rintro e w' ⟨rfl, ⟨nd, rfl⟩⟩))
    go_ret
    exact ⟨by first | rfl | (simp [errW_none, errW_some] <;> rfl) | (simp [*, errW_none, errW_some] <;> rfl), bl2 HB.out GE617.out GE618.out⟩
   ·rw [if_neg c5] at H
    have c5b0 : (a0_3.toList == a1_3.toList) = false := beq_eq_false_iff_ne.mpr c5
    have c5b1 : (a0_3.toList != a1_3.toList) = true := bne_iff_ne.mpr c5
    obtain rfl := Option.some.inj H
    go_enter Tryz.func23, Tryz.ntmps23
    go_wp2_with (first | ((with_reducible refine gd 2 ?_); refine bE 2 #[.int .i64 a0_0, .string a0_1, .slice A0_2 l0_2.length c0_2, .string a0_3] 31 ?_; intro gb617 hg w12 hbox hb; have BK617 := ak hbox; have GW617 := gs hg (bl HB.out); have GE617 := gs hg (bl HB.out); replace HB := ak (below_step (bl HB.out) hb); clear hb hbox hg) | ((with_reducible refine gd 3 ?_); refine bE 3 #[.int .i64 a1_0, .string a1_1, .slice A1_2 l1_2.length c1_2, .string a1_3] 31 ?_; intro gb618 hg w13 hbox hb; have BK618 := ak hbox; have GW618 := gs hg (bl1 HB.out GE617.out); have GE618 := gs hg (bl1 HB.out GE617.out); replace HB := ak (below_step (bl1 HB.out GE617.out) hb); have NB617_618 := nl hg BK617.out; have NB618_617 := ng hg BK617.out; replace BK617 := ak (blk_below (bk BK617.out) hb); clear hb hbox hg; have hnb14 := NB617_618.out; have hnc14 := NB618_617.out; obtain ⟨hcz15_0, hcz15_1, hcz15_2, hcz15_3, hfz15_0, hfz15_1, hfz15_2, hfz15_3⟩ := b4 BK617.out; obtain ⟨hcz16_0, hcz16_1, hcz16_2, hcz16_3, hfz16_0, hfz16_1, hfz16_2, hfz16_3⟩ := b4 BK618.out))
    go_ret
    exact ⟨by first | rfl | (simp [errW_none, errW_some] <;> rfl) | (simp [*, errW_none, errW_some] <;> rfl), bl2 HB.out GE617.out GE618.out⟩
  ·rw [if_neg c4] at H
   have c4b0 : (a0_1.toList == a1_1.toList) = false := beq_eq_false_iff_ne.mpr c4
   have c4b1 : (a0_1.toList != a1_1.toList) = true := bne_iff_ne.mpr c4
   obtain rfl := Option.some.inj H
   go_enter Tryz.func23, Tryz.ntmps23
   go_wp2_with (first | ((with_reducible refine gd 2 ?_); refine bE 2 #[.int .i64 a0_0, .string a0_1, .slice A0_2 l0_2.length c0_2, .string a0_3] 31 ?_; intro gb617 hg w17 hbox hb; have BK617 := ak hbox; have GW617 := gs hg (bl HB.out); have GE617 := gs hg (bl HB.out); replace HB := ak (below_step (bl HB.out) hb); clear hb hbox hg) | ((with_reducible refine gd 3 ?_); refine bE 3 #[.int .i64 a1_0, .string a1_1, .slice A1_2 l1_2.length c1_2, .string a1_3] 31 ?_; intro gb618 hg w18 hbox hb; have BK618 := ak hbox; have GW618 := gs hg (bl1 HB.out GE617.out); have GE618 := gs hg (bl1 HB.out GE617.out); replace HB := ak (below_step (bl1 HB.out GE617.out) hb); have NB617_618 := nl hg BK617.out; have NB618_617 := ng hg BK617.out; replace BK617 := ak (blk_below (bk BK617.out) hb); clear hb hbox hg; have hnb19 := NB617_618.out; have hnc19 := NB618_617.out; obtain ⟨hcz20_0, hcz20_1, hcz20_2, hcz20_3, hfz20_0, hfz20_1, hfz20_2, hfz20_3⟩ := b4 BK617.out; obtain ⟨hcz21_0, hcz21_1, hcz21_2, hcz21_3, hfz21_0, hfz21_1, hfz21_2, hfz21_3⟩ := b4 BK618.out))
   go_ret
   exact ⟨by first | rfl | (simp [errW_none, errW_some] <;> rfl) | (simp [*, errW_none, errW_some] <;> rfl), bl2 HB.out GE617.out GE618.out⟩
 ·rw [if_neg c3] at H
  have c3b0 : (a0_0 == a1_0) = false := beq_eq_false_iff_ne.mpr c3
  have c3b1 : (a0_0 != a1_0) = true := bne_iff_ne.mpr c3
  obtain rfl := Option.some.inj H
  go_enter Tryz.func23, Tryz.ntmps23
  go_wp2_with (first | ((with_reducible refine gd 2 ?_); refine bE 2 #[.int .i64 a0_0, .string a0_1, .slice A0_2 l0_2.length c0_2, .string a0_3] 31 ?_; intro gb617 hg w22 hbox hb; have BK617 := ak hbox; have GW617 := gs hg (bl HB.out); have GE617 := gs hg (bl HB.out); replace HB := ak (below_step (bl HB.out) hb); clear hb hbox hg) | ((with_reducible refine gd 3 ?_); refine bE 3 #[.int .i64 a1_0, .string a1_1, .slice A1_2 l1_2.length c1_2, .string a1_3] 31 ?_; intro gb618 hg w23 hbox hb; have BK618 := ak hbox; have GW618 := gs hg (bl1 HB.out GE617.out); have GE618 := gs hg (bl1 HB.out GE617.out); replace HB := ak (below_step (bl1 HB.out GE617.out) hb); have NB617_618 := nl hg BK617.out; have NB618_617 := ng hg BK617.out; replace BK617 := ak (blk_below (bk BK617.out) hb); clear hb hbox hg; have hnb24 := NB617_618.out; have hnc24 := NB618_617.out; obtain ⟨hcz25_0, hcz25_1, hcz25_2, hcz25_3, hfz25_0, hfz25_1, hfz25_2, hfz25_3⟩ := b4 BK617.out; obtain ⟨hcz26_0, hcz26_1, hcz26_2, hcz26_3, hfz26_0, hfz26_1, hfz26_2, hfz26_3⟩ := b4 BK618.out))
  go_ret
  exact ⟨by first | rfl | (simp [errW_none, errW_some] <;> rfl) | (simp [*, errW_none, errW_some] <;> rfl), bl2 HB.out GE617.out GE618.out⟩

-- NOT PRINTED: function 5 (laws_FnTorn)

end Go.Proofs.YthneflfbafieeaaGreatDoor.PFnTorn
