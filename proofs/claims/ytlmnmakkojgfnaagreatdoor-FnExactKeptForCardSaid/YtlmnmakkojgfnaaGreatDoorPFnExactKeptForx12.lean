-- written by a program of this session (wip/tool)
import Derived.Test.YtlmnmakkojgfnaaGreatDoorPFnExactKeptForx0
import Derived.Test.YtlmnmakkojgfnaaGreatDoorPFnExactKeptForx3
import Derived.Test.YtlmnmakkojgfnaaGreatDoorPFnExactKeptForx6
import Derived.Test.YtlmnmakkojgfnaaGreatDoorPFnExactKeptForx7
import Derived.Test.YtlmnmakkojgfnaaGreatDoorPFnExactKeptForx9
import Derived.Test.YtlmnmakkojgfnaaGreatDoorPFnExactKeptForx11
import Derived.Test.YtlmnmakkojgfnaaGreatDoorVOwn0
import Derived.Test.YtlmnmakkojgfnaaGreatDoorVOwnOpen
import Derived.WalkKit
import Derived.BigCall
import Derived.Test.YtlmnmakkojgfnaaGreatDoorOwnTr
import Derived.Test.YtlmnmakkojgfnaaGreatDoorVOwnShort
import Derived.Test.YtlmnmakkojgfnaaGreatDoorOwnSq
import Derived.Test.YtlmnmakkojgfnaaGreatDoorOwnIt
namespace Go.Proofs.YtlmnmakkojgfnaaGreatDoor.PFnExactKeptFor
open Go.RowKit Go.Proofs.YtlmnmakkojgfnaaGreatDoorW.PrintWords Go.Proofs.YtlmnmakkojgfnaaGreatDoorW.PrintLast Go.Proofs.YtlmnmakkojgfnaaGreatDoorW.PrintMore Go.Shelf Go.Proofs.YtlmnmakkojgfnaaGreatDoorOwn
attribute [local go_sem] max2_int min2_int max_two min_two max_three min_three max_four min_four   -- for this text's walks alone
set_option linter.unusedVariables false
set_option linter.unusedSimpArgs false

/-! ### spec_GoodKept: function 92 -/
def spec_GoodKept.f (k : Nat) (a0_0 : Int) (a0_1 : ByteArray) (l0_2 : List (S105)) (a0_3 : ByteArray) (a0_4 : Int) (a0_5 : Int) : Option (Bool) := (spec_GoodResponse.f k a0_0 a0_1 l0_2 a0_3).bind fun t330 => (if t330 = true then (if a0_4 ≥ 0 then (if a0_4 ≤ a0_5 then (some (decide (a0_5 ≤ 253402300799))) else (some false)) else (some false)) else (some false))
theorem spec_GoodKept.mono : ∀ a0 a1 a2 a3 a4 a5 k, LeO (spec_GoodKept.f k a0 a1 a2 a3 a4 a5) (spec_GoodKept.f (k + 1) a0 a1 a2 a3 a4 a5) := by
 intro a0 a1 a2 a3 a4 a5 k
 unfold spec_GoodKept.f
 repeat' with_reducible first | exact spec_GoodResponse.mono _ _ _ _ _ | exact LeO.refl _ | exact LeO.none _ | refine LeO.ite ?_ ?_ | refine LeO.bind ?_ (fun _ => ?_)
set_option maxHeartbeats 8000000 in
set_option maxRecDepth 100000 in
theorem spec_GoodKept.calls (k : Nat) (a0_0 : Int) (a0_1 : ByteArray) (A0_2 : Option Addr) (c0_2 : Nat) (l0_2 : List (S105)) (a0_3 : ByteArray) (a0_4 : Int) (a0_5 : Int) (r : Bool) (w : World) (hr0_2 : Kd.C k105 w A0_2 l0_2.length l0_2) (hc0_2 : l0_2.length ≤ c0_2) (h : spec_GoodKept.f k a0_0 a0_1 l0_2 a0_3 a0_4 a0_5 = some r) :
  Calls Tryz.prog 92 #[.agg #[.int .i64 a0_0, .string a0_1, .slice A0_2 l0_2.length c0_2, .string a0_3, .int .i64 a0_4, .int .i64 a0_5]] w fun e w' => e = .returned (.bool r) ∧ Below w.heap.size w w' := by
 have hu59 := Tryz.underlying59
 have hu57 := Tryz.underlying57
 have HR0_2 := ak hr0_2
 have HC0_2 := ak hc0_2
 clear hr0_2 hc0_2
 have HB := ak (Below.refl w.heap.size w)
 unfold spec_GoodKept.f at h; have H := h
 clear h
 replace H := bs H
 obtain ⟨t330, A2, H⟩ := H
 try dsimp only at H
 by_cases c3 : t330 = true
 ·subst c3
  rw [if_pos rfl] at H
  by_cases c4 : a0_4 ≥ 0
  ·rw [if_pos c4] at H
   have c4b0 : decide (0 ≤ a0_4) = true := decide_eq_true c4
   clear c4
   by_cases c5 : a0_4 ≤ a0_5
   ·rw [if_pos c5] at H
    have c5b0 := decide_eq_true c5
    clear c5
    obtain rfl := Option.some.inj H
    go_enter Tryz.func92, Tryz.ntmps92
    go_wp2_with (first | ((with_reducible refine gd 1 ?_); refine bE 1 #[.int .i64 a0_0, .string a0_1, .slice A0_2 l0_2.length c0_2, .string a0_3, .int .i64 a0_4, .int .i64 a0_5] 59 ?_; intro gb329 hg w6 hbox hb; have BK329 := ak hbox; have GW329 := gs hg (bl HB.out); have GE329 := gs hg (bl HB.out); replace HB := ak (below_step (bl HB.out) hb); clear hb hbox hg; obtain ⟨_, _, _, _, _, _, _, _, _, _, _, _⟩ := b6 BK329.out) | ((with_reducible refine gc 138 ?_); refine gL 138 Tryz.func138 (some 5) #[.agg #[.int .i64 a0_0, .string a0_1, .slice A0_2 l0_2.length c0_2, .string a0_3]] ?_; (with_reducible refine (spec_GoodResponse.calls k a0_0 a0_1 _ _ l0_2 a0_3 true _ ?side1 ?side2 A2.out).mono ?_); (case side1 => exact kc (Kd.C_below HR0_2.out HB.out)); (case side2 => exact HC0_2.out); rintro e w8 ⟨rfl, hb⟩; refine ⟨_, rfl, ?_⟩; replace BK329 := ak (blk_below (bk BK329.out) hb); replace HB := ak (below_step (bl1 HB.out GE329.out) hb); clear hb; obtain ⟨_, _, _, _, _, _, _, _, _, _, _, _⟩ := b6 BK329.out))
    go_ret
    exact rz (bl1 HB.out GE329.out)
   ·rw [if_neg c5] at H
    have c5b0 := decide_eq_false c5
    clear c5
    obtain rfl := Option.some.inj H
    go_enter Tryz.func92, Tryz.ntmps92
    go_wp2_with (first | ((with_reducible refine gd 1 ?_); refine bE 1 #[.int .i64 a0_0, .string a0_1, .slice A0_2 l0_2.length c0_2, .string a0_3, .int .i64 a0_4, .int .i64 a0_5] 59 ?_; intro gb329 hg w10 hbox hb; have BK329 := ak hbox; have GW329 := gs hg (bl HB.out); have GE329 := gs hg (bl HB.out); replace HB := ak (below_step (bl HB.out) hb); clear hb hbox hg; obtain ⟨_, _, _, _, _, _, _, _, _, _, _, _⟩ := b6 BK329.out) | ((with_reducible refine gc 138 ?_); refine gL 138 Tryz.func138 (some 5) #[.agg #[.int .i64 a0_0, .string a0_1, .slice A0_2 l0_2.length c0_2, .string a0_3]] ?_; (with_reducible refine (spec_GoodResponse.calls k a0_0 a0_1 _ _ l0_2 a0_3 true _ ?side1 ?side2 A2.out).mono ?_); (case side1 => exact kc (Kd.C_below HR0_2.out HB.out)); (case side2 => exact HC0_2.out); rintro e w12 ⟨rfl, hb⟩; refine ⟨_, rfl, ?_⟩; replace BK329 := ak (blk_below (bk BK329.out) hb); replace HB := ak (below_step (bl1 HB.out GE329.out) hb); clear hb; obtain ⟨_, _, _, _, _, _, _, _, _, _, _, _⟩ := b6 BK329.out))
    go_ret
    exact rz (bl1 HB.out GE329.out)
  ·rw [if_neg c4] at H
   have c4b0 : decide (0 ≤ a0_4) = false := decide_eq_false c4
   clear c4
   obtain rfl := Option.some.inj H
   go_enter Tryz.func92, Tryz.ntmps92
   go_wp2_with (first | ((with_reducible refine gd 1 ?_); refine bE 1 #[.int .i64 a0_0, .string a0_1, .slice A0_2 l0_2.length c0_2, .string a0_3, .int .i64 a0_4, .int .i64 a0_5] 59 ?_; intro gb329 hg w14 hbox hb; have BK329 := ak hbox; have GW329 := gs hg (bl HB.out); have GE329 := gs hg (bl HB.out); replace HB := ak (below_step (bl HB.out) hb); clear hb hbox hg; obtain ⟨_, _, _, _, _, _, _, _, _, _, _, _⟩ := b6 BK329.out) | ((with_reducible refine gc 138 ?_); refine gL 138 Tryz.func138 (some 5) #[.agg #[.int .i64 a0_0, .string a0_1, .slice A0_2 l0_2.length c0_2, .string a0_3]] ?_; (with_reducible refine (spec_GoodResponse.calls k a0_0 a0_1 _ _ l0_2 a0_3 true _ ?side1 ?side2 A2.out).mono ?_); (case side1 => exact kc (Kd.C_below HR0_2.out HB.out)); (case side2 => exact HC0_2.out); rintro e w16 ⟨rfl, hb⟩; refine ⟨_, rfl, ?_⟩; replace BK329 := ak (blk_below (bk BK329.out) hb); replace HB := ak (below_step (bl1 HB.out GE329.out) hb); clear hb; obtain ⟨_, _, _, _, _, _, _, _, _, _, _, _⟩ := b6 BK329.out))
   go_ret
   exact rz (bl1 HB.out GE329.out)
 ·replace c3 := Bool.eq_false_iff.mpr c3
  subst c3
  rw [if_neg ff] at H
  obtain rfl := Option.some.inj H
  go_enter Tryz.func92, Tryz.ntmps92
  go_wp2_with (first | ((with_reducible refine gd 1 ?_); refine bE 1 #[.int .i64 a0_0, .string a0_1, .slice A0_2 l0_2.length c0_2, .string a0_3, .int .i64 a0_4, .int .i64 a0_5] 59 ?_; intro gb329 hg w18 hbox hb; have BK329 := ak hbox; have GW329 := gs hg (bl HB.out); have GE329 := gs hg (bl HB.out); replace HB := ak (below_step (bl HB.out) hb); clear hb hbox hg; obtain ⟨_, _, _, _, _, _, _, _, _, _, _, _⟩ := b6 BK329.out) | ((with_reducible refine gc 138 ?_); refine gL 138 Tryz.func138 (some 5) #[.agg #[.int .i64 a0_0, .string a0_1, .slice A0_2 l0_2.length c0_2, .string a0_3]] ?_; (with_reducible refine (spec_GoodResponse.calls k a0_0 a0_1 _ _ l0_2 a0_3 false _ ?side1 ?side2 A2.out).mono ?_); (case side1 => exact kc (Kd.C_below HR0_2.out HB.out)); (case side2 => exact HC0_2.out); rintro e w20 ⟨rfl, hb⟩; refine ⟨_, rfl, ?_⟩; replace BK329 := ak (blk_below (bk BK329.out) hb); replace HB := ak (below_step (bl1 HB.out GE329.out) hb); clear hb))
  go_ret
  exact rz (bl1 HB.out GE329.out)

/-! ### spec_l9Item: function 53 -/
def spec_l9Item.f (k : Nat) (a0_0 : ByteArray) (l0_1 : List (S105)) (a0_2 : Int) (a0_3 : ByteArray) (l0_4 : List (S105)) (a0_5 : ByteArray) (a0_6 : Int) (a0_7 : Int) : Option (Bool) := (spec_l9Vary.f k a0_2 a0_3 l0_4 a0_5).bind fun bt332 => (if (a0_0.size : Int) ≤ 200 then ((spec_l3Fields.f k l0_1).bind fun t337 => (if t337 = true then ((spec_GoodKept.f k a0_2 a0_3 l0_4 a0_5 a0_6 a0_7).bind fun t338 => (if t338 = true then (if bt332.2.2 = true then (some (!bt332.2.1)) else (some false)) else (some false))) else (some false))) else (some false))
theorem spec_l9Item.mono : ∀ a0 a1 a2 a3 a4 a5 a6 a7 k, LeO (spec_l9Item.f k a0 a1 a2 a3 a4 a5 a6 a7) (spec_l9Item.f (k + 1) a0 a1 a2 a3 a4 a5 a6 a7) := by
 intro a0 a1 a2 a3 a4 a5 a6 a7 k
 unfold spec_l9Item.f
 repeat' with_reducible first | exact spec_GoodKept.mono _ _ _ _ _ _ _ | exact spec_l3Fields.mono _ _ | exact spec_l9Vary.mono _ _ _ _ _ | exact LeO.refl _ | exact LeO.none _ | refine LeO.ite ?_ ?_ | refine LeO.bind ?_ (fun _ => ?_)
set_option maxHeartbeats 8000000 in
set_option maxRecDepth 100000 in
theorem spec_l9Item.calls (k : Nat) (a0_0 : ByteArray) (A0_1 : Option Addr) (c0_1 : Nat) (l0_1 : List (S105)) (a0_2 : Int) (a0_3 : ByteArray) (A0_4 : Option Addr) (c0_4 : Nat) (l0_4 : List (S105)) (a0_5 : ByteArray) (a0_6 : Int) (a0_7 : Int) (r : Bool) (w : World) (hr0_1 : Kd.C k105 w A0_1 l0_1.length l0_1) (hc0_1 : l0_1.length ≤ c0_1) (hr0_4 : Kd.C k105 w A0_4 l0_4.length l0_4) (hc0_4 : l0_4.length ≤ c0_4) (h : spec_l9Item.f k a0_0 l0_1 a0_2 a0_3 l0_4 a0_5 a0_6 a0_7 = some r) :
  Calls Tryz.prog 53 #[.agg #[.string a0_0, .slice A0_1 l0_1.length c0_1, .int .i64 a0_2, .string a0_3, .slice A0_4 l0_4.length c0_4, .string a0_5, .int .i64 a0_6, .int .i64 a0_7]] w fun e w' => e = .returned (.bool r) ∧ Below w.heap.size w w' := by
 have hu61 := Tryz.underlying61
 have hu57 := Tryz.underlying57
 have hu59 := Tryz.underlying59
 have HR0_1 := ak hr0_1
 have HC0_1 := ak hc0_1
 clear hr0_1 hc0_1
 have HR0_4 := ak hr0_4
 have HC0_4 := ak hc0_4
 clear hr0_4 hc0_4
 have HB := ak (Below.refl w.heap.size w)
 unfold spec_l9Item.f at h; have H := h
 clear h
 replace H := bs H
 obtain ⟨⟨t332, t335, t336⟩, A2, H⟩ := H
 try dsimp only at H
 by_cases c3 : (a0_0.size : Int) ≤ 200
 ·rw [if_pos c3] at H
  have c3b0 := decide_eq_true c3
  have c3b1 : decide (a0_0.size ≤ 200) = true := decide_eq_true (by omega)
  clear c3
  replace H := bs H
  obtain ⟨t337, A4, H⟩ := H
  try dsimp only at H
  by_cases c5 : t337 = true
  ·subst c5
   rw [if_pos rfl] at H
   replace H := bs H
   obtain ⟨t338, A6, H⟩ := H
   try dsimp only at H
   by_cases c7 : t338 = true
   ·subst c7
    rw [if_pos rfl] at H
    by_cases c8 : t336 = true
    ·subst c8
     rw [if_pos rfl] at H
     obtain rfl := Option.some.inj H
     go_enter Tryz.func53, Tryz.ntmps53
     go_wp2_with (first | ((with_reducible refine gd 1 ?_); refine bE 1 #[.string a0_0, .slice A0_1 l0_1.length c0_1, .int .i64 a0_2, .string a0_3, .slice A0_4 l0_4.length c0_4, .string a0_5, .int .i64 a0_6, .int .i64 a0_7] 61 ?_; intro gb331 hg w9 hbox hb; have BK331 := ak hbox; have GW331 := gs hg (bl HB.out); have GE331 := gs hg (bl HB.out); replace HB := ak (below_step (bl HB.out) hb); clear hb hbox hg; obtain ⟨_, _, _, _, _, _, _, _, _, _, _, _, _, _, _, _⟩ := b8 BK331.out) | ((with_reducible refine gc 91 ?_); refine gL 91 Tryz.func91 (some 10) #[.agg #[.int .i64 a0_2, .string a0_3, .slice A0_4 l0_4.length c0_4, .string a0_5]] ?_; (with_reducible refine (spec_l9Vary.calls k a0_2 a0_3 _ _ l0_4 a0_5 t332 t335 true _ ?side1 ?side2 A2.out).mono ?_); (case side1 => exact kc (Kd.C_below HR0_4.out HB.out)); (case side2 => exact HC0_4.out); rintro e w11 ⟨v333, rfl, ho0, hb⟩; refine ⟨_, rfl, ?_⟩; have HO334 := ak (Kd.R_lower ho0 (below_size (bl1 HB.out GE331.out))); replace BK331 := ak (blk_below (bk BK331.out) hb); replace HB := ak (below_step (bl1 HB.out GE331.out) hb); clear hb ho0; obtain ⟨_, _, _, _, _, _, _, _, _, _, _, _, _, _, _, _⟩ := b8 BK331.out) | (go_at_call 67; (with_reducible refine (spec_l3Fields.calls k _ _ l0_1 true _ ?side1 ?side2 A4.out).mono ?_); (case side1 => exact kc (Kd.C_below HR0_1.out HB.out)); (case side2 => exact HC0_1.out); rintro e w13 ⟨rfl, hb⟩; replace HO334 := ak (Kd.R_below (kr HO334.out) hb); replace BK331 := ak (blk_below (bk BK331.out) hb); replace HB := ak (below_step (bl1 HB.out GE331.out) hb); clear hb; obtain ⟨_, _, _, _, _, _, _, _, _, _, _, _, _, _, _, _⟩ := b8 BK331.out) | (go_at_call 92; (with_reducible refine (spec_GoodKept.calls k a0_2 a0_3 _ _ l0_4 a0_5 a0_6 a0_7 true _ ?side1 ?side2 A6.out).mono ?_); (case side1 => exact kc (Kd.C_below HR0_4.out HB.out)); (case side2 => exact HC0_4.out); rintro e w15 ⟨rfl, hb⟩; replace HO334 := ak (Kd.R_below (kr HO334.out) hb); replace BK331 := ak (blk_below (bk BK331.out) hb); replace HB := ak (below_step (bl1 HB.out GE331.out) hb); clear hb))
     go_ret
     exact rz (bl1 HB.out GE331.out)
    ·replace c8 := Bool.eq_false_iff.mpr c8
     subst c8
     rw [if_neg ff] at H
     obtain rfl := Option.some.inj H
     go_enter Tryz.func53, Tryz.ntmps53
     go_wp2_with (first | ((with_reducible refine gd 1 ?_); refine bE 1 #[.string a0_0, .slice A0_1 l0_1.length c0_1, .int .i64 a0_2, .string a0_3, .slice A0_4 l0_4.length c0_4, .string a0_5, .int .i64 a0_6, .int .i64 a0_7] 61 ?_; intro gb331 hg w16 hbox hb; have BK331 := ak hbox; have GW331 := gs hg (bl HB.out); have GE331 := gs hg (bl HB.out); replace HB := ak (below_step (bl HB.out) hb); clear hb hbox hg; obtain ⟨_, _, _, _, _, _, _, _, _, _, _, _, _, _, _, _⟩ := b8 BK331.out) | ((with_reducible refine gc 91 ?_); refine gL 91 Tryz.func91 (some 10) #[.agg #[.int .i64 a0_2, .string a0_3, .slice A0_4 l0_4.length c0_4, .string a0_5]] ?_; (with_reducible refine (spec_l9Vary.calls k a0_2 a0_3 _ _ l0_4 a0_5 t332 t335 false _ ?side1 ?side2 A2.out).mono ?_); (case side1 => exact kc (Kd.C_below HR0_4.out HB.out)); (case side2 => exact HC0_4.out); rintro e w18 ⟨v333, rfl, ho0, hb⟩; refine ⟨_, rfl, ?_⟩; have HO334 := ak (Kd.R_lower ho0 (below_size (bl1 HB.out GE331.out))); replace BK331 := ak (blk_below (bk BK331.out) hb); replace HB := ak (below_step (bl1 HB.out GE331.out) hb); clear hb ho0; obtain ⟨_, _, _, _, _, _, _, _, _, _, _, _, _, _, _, _⟩ := b8 BK331.out) | (go_at_call 67; (with_reducible refine (spec_l3Fields.calls k _ _ l0_1 true _ ?side1 ?side2 A4.out).mono ?_); (case side1 => exact kc (Kd.C_below HR0_1.out HB.out)); (case side2 => exact HC0_1.out); rintro e w20 ⟨rfl, hb⟩; replace HO334 := ak (Kd.R_below (kr HO334.out) hb); replace BK331 := ak (blk_below (bk BK331.out) hb); replace HB := ak (below_step (bl1 HB.out GE331.out) hb); clear hb; obtain ⟨_, _, _, _, _, _, _, _, _, _, _, _, _, _, _, _⟩ := b8 BK331.out) | (go_at_call 92; (with_reducible refine (spec_GoodKept.calls k a0_2 a0_3 _ _ l0_4 a0_5 a0_6 a0_7 true _ ?side1 ?side2 A6.out).mono ?_); (case side1 => exact kc (Kd.C_below HR0_4.out HB.out)); (case side2 => exact HC0_4.out); rintro e w22 ⟨rfl, hb⟩; replace HO334 := ak (Kd.R_below (kr HO334.out) hb); replace BK331 := ak (blk_below (bk BK331.out) hb); replace HB := ak (below_step (bl1 HB.out GE331.out) hb); clear hb))
     go_ret
     exact rz (bl1 HB.out GE331.out)
   ·replace c7 := Bool.eq_false_iff.mpr c7
    subst c7
    rw [if_neg ff] at H
    obtain rfl := Option.some.inj H
    go_enter Tryz.func53, Tryz.ntmps53
    go_wp2_with (first | ((with_reducible refine gd 1 ?_); refine bE 1 #[.string a0_0, .slice A0_1 l0_1.length c0_1, .int .i64 a0_2, .string a0_3, .slice A0_4 l0_4.length c0_4, .string a0_5, .int .i64 a0_6, .int .i64 a0_7] 61 ?_; intro gb331 hg w23 hbox hb; have BK331 := ak hbox; have GW331 := gs hg (bl HB.out); have GE331 := gs hg (bl HB.out); replace HB := ak (below_step (bl HB.out) hb); clear hb hbox hg; obtain ⟨_, _, _, _, _, _, _, _, _, _, _, _, _, _, _, _⟩ := b8 BK331.out) | ((with_reducible refine gc 91 ?_); refine gL 91 Tryz.func91 (some 10) #[.agg #[.int .i64 a0_2, .string a0_3, .slice A0_4 l0_4.length c0_4, .string a0_5]] ?_; (with_reducible refine (spec_l9Vary.calls k a0_2 a0_3 _ _ l0_4 a0_5 t332 t335 t336 _ ?side1 ?side2 A2.out).mono ?_); (case side1 => exact kc (Kd.C_below HR0_4.out HB.out)); (case side2 => exact HC0_4.out); rintro e w25 ⟨v333, rfl, ho0, hb⟩; refine ⟨_, rfl, ?_⟩; have HO334 := ak (Kd.R_lower ho0 (below_size (bl1 HB.out GE331.out))); replace BK331 := ak (blk_below (bk BK331.out) hb); replace HB := ak (below_step (bl1 HB.out GE331.out) hb); clear hb ho0; obtain ⟨_, _, _, _, _, _, _, _, _, _, _, _, _, _, _, _⟩ := b8 BK331.out) | (go_at_call 67; (with_reducible refine (spec_l3Fields.calls k _ _ l0_1 true _ ?side1 ?side2 A4.out).mono ?_); (case side1 => exact kc (Kd.C_below HR0_1.out HB.out)); (case side2 => exact HC0_1.out); rintro e w27 ⟨rfl, hb⟩; replace HO334 := ak (Kd.R_below (kr HO334.out) hb); replace BK331 := ak (blk_below (bk BK331.out) hb); replace HB := ak (below_step (bl1 HB.out GE331.out) hb); clear hb; obtain ⟨_, _, _, _, _, _, _, _, _, _, _, _, _, _, _, _⟩ := b8 BK331.out) | (go_at_call 92; (with_reducible refine (spec_GoodKept.calls k a0_2 a0_3 _ _ l0_4 a0_5 a0_6 a0_7 false _ ?side1 ?side2 A6.out).mono ?_); (case side1 => exact kc (Kd.C_below HR0_4.out HB.out)); (case side2 => exact HC0_4.out); rintro e w29 ⟨rfl, hb⟩; replace HO334 := ak (Kd.R_below (kr HO334.out) hb); replace BK331 := ak (blk_below (bk BK331.out) hb); replace HB := ak (below_step (bl1 HB.out GE331.out) hb); clear hb))
    go_ret
    exact rz (bl1 HB.out GE331.out)
  ·replace c5 := Bool.eq_false_iff.mpr c5
   subst c5
   rw [if_neg ff] at H
   obtain rfl := Option.some.inj H
   go_enter Tryz.func53, Tryz.ntmps53
   go_wp2_with (first | ((with_reducible refine gd 1 ?_); refine bE 1 #[.string a0_0, .slice A0_1 l0_1.length c0_1, .int .i64 a0_2, .string a0_3, .slice A0_4 l0_4.length c0_4, .string a0_5, .int .i64 a0_6, .int .i64 a0_7] 61 ?_; intro gb331 hg w30 hbox hb; have BK331 := ak hbox; have GW331 := gs hg (bl HB.out); have GE331 := gs hg (bl HB.out); replace HB := ak (below_step (bl HB.out) hb); clear hb hbox hg; obtain ⟨_, _, _, _, _, _, _, _, _, _, _, _, _, _, _, _⟩ := b8 BK331.out) | ((with_reducible refine gc 91 ?_); refine gL 91 Tryz.func91 (some 10) #[.agg #[.int .i64 a0_2, .string a0_3, .slice A0_4 l0_4.length c0_4, .string a0_5]] ?_; (with_reducible refine (spec_l9Vary.calls k a0_2 a0_3 _ _ l0_4 a0_5 t332 t335 t336 _ ?side1 ?side2 A2.out).mono ?_); (case side1 => exact kc (Kd.C_below HR0_4.out HB.out)); (case side2 => exact HC0_4.out); rintro e w32 ⟨v333, rfl, ho0, hb⟩; refine ⟨_, rfl, ?_⟩; have HO334 := ak (Kd.R_lower ho0 (below_size (bl1 HB.out GE331.out))); replace BK331 := ak (blk_below (bk BK331.out) hb); replace HB := ak (below_step (bl1 HB.out GE331.out) hb); clear hb ho0; obtain ⟨_, _, _, _, _, _, _, _, _, _, _, _, _, _, _, _⟩ := b8 BK331.out) | (go_at_call 67; (with_reducible refine (spec_l3Fields.calls k _ _ l0_1 false _ ?side1 ?side2 A4.out).mono ?_); (case side1 => exact kc (Kd.C_below HR0_1.out HB.out)); (case side2 => exact HC0_1.out); rintro e w34 ⟨rfl, hb⟩; replace HO334 := ak (Kd.R_below (kr HO334.out) hb); replace BK331 := ak (blk_below (bk BK331.out) hb); replace HB := ak (below_step (bl1 HB.out GE331.out) hb); clear hb))
   go_ret
   exact rz (bl1 HB.out GE331.out)
 ·rw [if_neg c3] at H
  have c3b0 := decide_eq_false c3
  have c3b1 : decide (a0_0.size ≤ 200) = false := decide_eq_false (by omega)
  clear c3
  obtain rfl := Option.some.inj H
  go_enter Tryz.func53, Tryz.ntmps53
  go_wp2_with (first | ((with_reducible refine gd 1 ?_); refine bE 1 #[.string a0_0, .slice A0_1 l0_1.length c0_1, .int .i64 a0_2, .string a0_3, .slice A0_4 l0_4.length c0_4, .string a0_5, .int .i64 a0_6, .int .i64 a0_7] 61 ?_; intro gb331 hg w35 hbox hb; have BK331 := ak hbox; have GW331 := gs hg (bl HB.out); have GE331 := gs hg (bl HB.out); replace HB := ak (below_step (bl HB.out) hb); clear hb hbox hg; obtain ⟨_, _, _, _, _, _, _, _, _, _, _, _, _, _, _, _⟩ := b8 BK331.out) | ((with_reducible refine gc 91 ?_); refine gL 91 Tryz.func91 (some 10) #[.agg #[.int .i64 a0_2, .string a0_3, .slice A0_4 l0_4.length c0_4, .string a0_5]] ?_; (with_reducible refine (spec_l9Vary.calls k a0_2 a0_3 _ _ l0_4 a0_5 t332 t335 t336 _ ?side1 ?side2 A2.out).mono ?_); (case side1 => exact kc (Kd.C_below HR0_4.out HB.out)); (case side2 => exact HC0_4.out); rintro e w37 ⟨v333, rfl, ho0, hb⟩; refine ⟨_, rfl, ?_⟩; have HO334 := ak (Kd.R_lower ho0 (below_size (bl1 HB.out GE331.out))); replace BK331 := ak (blk_below (bk BK331.out) hb); replace HB := ak (below_step (bl1 HB.out GE331.out) hb); clear hb ho0; obtain ⟨_, _, _, _, _, _, _, _, _, _, _, _, _, _, _, _⟩ := b8 BK331.out))
  go_ret
  exact rz (bl1 HB.out GE331.out)

/-! ### spec_l9Items: function 38 -/
def spec_l9Items.l0 : Nat → List (S61) → List (S61) → Int → Int → Option (Bool)
 | 0, _, _, _, _ => none
 | k + 1, x0, x5, x6, x7 => if x7 < x6 then (if 0 ≤ x7 then (if x7 < (x5.length : Int) then ((spec_l9Item.f k ((rd_T61 x5 x7).f0) ((rd_T61 x5 x7).f1) ((rd_T61 x5 x7).f2.f0.f0) ((rd_T61 x5 x7).f2.f0.f1) ((rd_T61 x5 x7).f2.f0.f2) ((rd_T61 x5 x7).f2.f0.f3) ((rd_T61 x5 x7).f2.f1) ((rd_T61 x5 x7).f2.f2)).bind fun t341 => (if t341 = true then (spec_l9Items.l0 k x0 x5 x6 (wrap64 (x7 + 1))) else (some false))) else (none)) else (none)) else (some (decide ((x0.length : Int) ≤ 30)))
def spec_l9Items.f (k : Nat) (l0 : List (S61)) : Option (Bool) := spec_l9Items.l0 k l0 l0 (l0.length : Int) 0
theorem spec_l9Items.mono_l : ∀ k, (∀ y0 y1 y2 y3, LeO (spec_l9Items.l0 k y0 y1 y2 y3) (spec_l9Items.l0 (k + 1) y0 y1 y2 y3))
 | 0 => fun _ _ _ _ r h => by simp [spec_l9Items.l0] at h
 | k + 1 => by
  have ih0 := spec_l9Items.mono_l k
  ·intro y0 y1 y2 y3
   unfold spec_l9Items.l0
   repeat' with_reducible first | exact ih0 _ _ _ _ | exact spec_l9Item.mono _ _ _ _ _ _ _ _ _ | exact LeO.refl _ | exact LeO.none _ | refine LeO.ite ?_ ?_ | refine LeO.bind ?_ (fun _ => ?_)
theorem spec_l9Items.mono : ∀ a0 k, LeO (spec_l9Items.f k a0) (spec_l9Items.f (k + 1) a0) := by
 intro a0 k
 have ih0 := spec_l9Items.mono_l k
 unfold spec_l9Items.f
 repeat' with_reducible first | exact ih0 _ _ _ _ | exact spec_l9Item.mono _ _ _ _ _ _ _ _ _ | exact LeO.refl _ | exact LeO.none _ | refine LeO.ite ?_ ?_ | refine LeO.bind ?_ (fun _ => ?_)
set_option maxHeartbeats 8000000 in
set_option maxRecDepth 100000 in
theorem spec_l9Items.calls (k : Nat) (A0 : Option Addr) (c0 : Nat) (l0 : List (S61)) (r : Bool) (w : World) (hr0 : Kd.C k61 w A0 l0.length l0) (hc0 : l0.length ≤ c0) (h : spec_l9Items.f k l0 = some r) :
  Calls Tryz.prog 38 #[.slice A0 l0.length c0] w fun e w' => e = .returned (.bool r) ∧ Below w.heap.size w w' := by
 have hu61 := Tryz.underlying61
 have HR0 := ak hr0
 have HC0 := ak hc0
 clear hr0 hc0
 have HB := ak (Below.refl w.heap.size w)
 have H : (spec_l9Items.l0 k l0 l0 (l0.length : Int) 0) = some r := h
 clear h
 have H' := ak H
 clear H
 go_enter Tryz.func38, Tryz.ntmps38
 go_wp2
 go_loopg [7] k (fun kq v7 w' => ∃ (x7_1 : Int), v7 = .int .i64 x7_1 ∧ Aside0 (spec_l9Items.l0 kq l0 l0 (l0.length : Int) x7_1 = some r) ∧ Aside0 (kq ≤ k) ∧ Aside0 (Below w.heap.size w w'))
 case atStart => exact ⟨(0), (by first | rfl | (simp; done) | (simp [*]; done)), H', ⟨Nat.le_refl _⟩, ⟨bl HB.out⟩⟩
 case round =>
  clear H'
  obtain ⟨x7_1, rfl, HA, HK1, HB⟩ := hrel
  cases gk with
  | zero => exact absurd HA.out (by simp [spec_l9Items.l0])
  | succ k1 =>
   have H := HA.out
   clear HA
   simp only [spec_l9Items.l0] at H
   by_cases c2 : x7_1 < (l0.length : Int)
   ·rw [if_pos c2] at H
    have c2b0 := decide_eq_true c2
    clear c2
    by_cases c3 : 0 ≤ x7_1
    ·rw [if_pos c3] at H
     have c3b0 := decide_eq_true c3
     clear c3
     by_cases c4 : x7_1 < (l0.length : Int)
     ·rw [if_pos c4] at H
      have c4b0 := decide_eq_true c4
      clear c4
      replace H := bs H
      obtain ⟨t341, A5, H⟩ := H
      try dsimp only at H
      by_cases c6 : t341 = true
      ·subst c6
       rw [if_pos rfl] at H
       have H' := ak H
       clear H
       have p339 : 0 ≤ (x7_1 : Int) := od
       have q339 : x7_1 < (l0.length : Int) := od
       obtain ⟨ad339, A339_1, c339_1, A339_4, c339_4, e339, hx339_0, hx339_1, hx339_2, hx339_3, hx339_4, hx339_5, hx339_6, hx339_7, hl339_1, hi339_1, hl339_4, hi339_4⟩ := at_T61 HR0.out x7_1 p339 q339
       cases e339
       replace hx339_0 := (HB.out.cell (World.block_lt_of_cell? w _ hx339_0)).trans hx339_0
       replace hx339_1 := (HB.out.cell (World.block_lt_of_cell? w _ hx339_1)).trans hx339_1
       replace hx339_2 := (HB.out.cell (World.block_lt_of_cell? w _ hx339_2)).trans hx339_2
       replace hx339_3 := (HB.out.cell (World.block_lt_of_cell? w _ hx339_3)).trans hx339_3
       replace hx339_4 := (HB.out.cell (World.block_lt_of_cell? w _ hx339_4)).trans hx339_4
       replace hx339_5 := (HB.out.cell (World.block_lt_of_cell? w _ hx339_5)).trans hx339_5
       replace hx339_6 := (HB.out.cell (World.block_lt_of_cell? w _ hx339_6)).trans hx339_6
       replace hx339_7 := (HB.out.cell (World.block_lt_of_cell? w _ hx339_7)).trans hx339_7
       have HR339_1 := ak hi339_1
       have HC339_1 := ak hl339_1
       clear hi339_1 hl339_1
       have HR339_4 := ak hi339_4
       have HC339_4 := ak hl339_4
       clear hi339_4 hl339_4
       replace p339 := eq_true p339
       replace q339 := eq_true q339
       go_wp2_with (first | ((with_reducible refine gd 4 ?_); refine bE 4 #[.string (⟨#[]⟩ : ByteArray), .slice none 0 0, .int .i64 0, .string (⟨#[]⟩ : ByteArray), .slice none 0 0, .string (⟨#[]⟩ : ByteArray), .int .i64 0, .int .i64 0] 61 ?_; intro gb340 hg w7 hbox hb; have BK340 := ak hbox; have GW340 := gs hg (bl HB.out); have GE340 := gs hg (bl HB.out); replace HB := ak (below_step (bl HB.out) hb); clear hb hbox hg; obtain ⟨_, _, _, _, _, _, _, _, _, _, _, _, _, _, _, _⟩ := b8 BK340.out) | ((with_reducible refine gc 53 ?_); refine gL 53 Tryz.func53 (some 12) #[.agg #[.string ((rd_T61 l0 x7_1).f0), .slice A339_1 ((rd_T61 l0 x7_1).f1).length c339_1, .int .i64 ((rd_T61 l0 x7_1).f2.f0.f0), .string ((rd_T61 l0 x7_1).f2.f0.f1), .slice A339_4 ((rd_T61 l0 x7_1).f2.f0.f2).length c339_4, .string ((rd_T61 l0 x7_1).f2.f0.f3), .int .i64 ((rd_T61 l0 x7_1).f2.f1), .int .i64 ((rd_T61 l0 x7_1).f2.f2)]] ?_; (with_reducible refine (spec_l9Item.calls k1 ((rd_T61 l0 x7_1).f0) _ _ ((rd_T61 l0 x7_1).f1) ((rd_T61 l0 x7_1).f2.f0.f0) ((rd_T61 l0 x7_1).f2.f0.f1) _ _ ((rd_T61 l0 x7_1).f2.f0.f2) ((rd_T61 l0 x7_1).f2.f0.f3) ((rd_T61 l0 x7_1).f2.f1) ((rd_T61 l0 x7_1).f2.f2) true _ ?side1 ?side2 ?side3 ?side4 A5.out).mono ?_); (case side1 => exact Kd.C_below HR339_1.out (bl1 HB.out GE340.out)); (case side2 => exact HC339_1.out); (case side3 => exact Kd.C_below HR339_4.out (bl1 HB.out GE340.out)); (case side4 => exact HC339_4.out); rintro e w9 ⟨rfl, hb⟩; refine ⟨_, rfl, ?_⟩; replace BK340 := ak (blk_below (g := gb340) (o := .cells #[.string ((rd_T61 l0 x7_1).f0), .slice A339_1 ((rd_T61 l0 x7_1).f1).length c339_1, .int .i64 ((rd_T61 l0 x7_1).f2.f0.f0), .string ((rd_T61 l0 x7_1).f2.f0.f1), .slice A339_4 ((rd_T61 l0 x7_1).f2.f0.f2).length c339_4, .string ((rd_T61 l0 x7_1).f2.f0.f3), .int .i64 ((rd_T61 l0 x7_1).f2.f1), .int .i64 ((rd_T61 l0 x7_1).f2.f2)] 61 (0, 0)) (bq BK340.out) hb); replace HB := ak (below_step (bl1 HB.out GE340.out) hb); clear hb))
       go_roundg k1
       case measure => have := HK1.out; omega
       case rel => exact ⟨(wrap64 (x7_1 + 1)), (by first | rfl | (simp; done) | (simp [*]; done)), H', ⟨by have := HK1.out; omega⟩, ⟨bl1 HB.out GE340.out⟩⟩
      ·replace c6 := Bool.eq_false_iff.mpr c6
       subst c6
       rw [if_neg ff] at H
       obtain rfl := Option.some.inj H
       have p339 : 0 ≤ (x7_1 : Int) := od
       have q339 : x7_1 < (l0.length : Int) := od
       obtain ⟨ad339, A339_1, c339_1, A339_4, c339_4, e339, hx339_0, hx339_1, hx339_2, hx339_3, hx339_4, hx339_5, hx339_6, hx339_7, hl339_1, hi339_1, hl339_4, hi339_4⟩ := at_T61 HR0.out x7_1 p339 q339
       cases e339
       replace hx339_0 := (HB.out.cell (World.block_lt_of_cell? w _ hx339_0)).trans hx339_0
       replace hx339_1 := (HB.out.cell (World.block_lt_of_cell? w _ hx339_1)).trans hx339_1
       replace hx339_2 := (HB.out.cell (World.block_lt_of_cell? w _ hx339_2)).trans hx339_2
       replace hx339_3 := (HB.out.cell (World.block_lt_of_cell? w _ hx339_3)).trans hx339_3
       replace hx339_4 := (HB.out.cell (World.block_lt_of_cell? w _ hx339_4)).trans hx339_4
       replace hx339_5 := (HB.out.cell (World.block_lt_of_cell? w _ hx339_5)).trans hx339_5
       replace hx339_6 := (HB.out.cell (World.block_lt_of_cell? w _ hx339_6)).trans hx339_6
       replace hx339_7 := (HB.out.cell (World.block_lt_of_cell? w _ hx339_7)).trans hx339_7
       have HR339_1 := ak hi339_1
       have HC339_1 := ak hl339_1
       clear hi339_1 hl339_1
       have HR339_4 := ak hi339_4
       have HC339_4 := ak hl339_4
       clear hi339_4 hl339_4
       replace p339 := eq_true p339
       replace q339 := eq_true q339
       go_wp2_with (first | ((with_reducible refine gd 4 ?_); refine bE 4 #[.string (⟨#[]⟩ : ByteArray), .slice none 0 0, .int .i64 0, .string (⟨#[]⟩ : ByteArray), .slice none 0 0, .string (⟨#[]⟩ : ByteArray), .int .i64 0, .int .i64 0] 61 ?_; intro gb340 hg w10 hbox hb; have BK340 := ak hbox; have GW340 := gs hg (bl HB.out); have GE340 := gs hg (bl HB.out); replace HB := ak (below_step (bl HB.out) hb); clear hb hbox hg; obtain ⟨_, _, _, _, _, _, _, _, _, _, _, _, _, _, _, _⟩ := b8 BK340.out) | ((with_reducible refine gc 53 ?_); refine gL 53 Tryz.func53 (some 12) #[.agg #[.string ((rd_T61 l0 x7_1).f0), .slice A339_1 ((rd_T61 l0 x7_1).f1).length c339_1, .int .i64 ((rd_T61 l0 x7_1).f2.f0.f0), .string ((rd_T61 l0 x7_1).f2.f0.f1), .slice A339_4 ((rd_T61 l0 x7_1).f2.f0.f2).length c339_4, .string ((rd_T61 l0 x7_1).f2.f0.f3), .int .i64 ((rd_T61 l0 x7_1).f2.f1), .int .i64 ((rd_T61 l0 x7_1).f2.f2)]] ?_; (with_reducible refine (spec_l9Item.calls k1 ((rd_T61 l0 x7_1).f0) _ _ ((rd_T61 l0 x7_1).f1) ((rd_T61 l0 x7_1).f2.f0.f0) ((rd_T61 l0 x7_1).f2.f0.f1) _ _ ((rd_T61 l0 x7_1).f2.f0.f2) ((rd_T61 l0 x7_1).f2.f0.f3) ((rd_T61 l0 x7_1).f2.f1) ((rd_T61 l0 x7_1).f2.f2) false _ ?side1 ?side2 ?side3 ?side4 A5.out).mono ?_); (case side1 => exact Kd.C_below HR339_1.out (bl1 HB.out GE340.out)); (case side2 => exact HC339_1.out); (case side3 => exact Kd.C_below HR339_4.out (bl1 HB.out GE340.out)); (case side4 => exact HC339_4.out); rintro e w12 ⟨rfl, hb⟩; refine ⟨_, rfl, ?_⟩; replace BK340 := ak (blk_below (g := gb340) (o := .cells #[.string ((rd_T61 l0 x7_1).f0), .slice A339_1 ((rd_T61 l0 x7_1).f1).length c339_1, .int .i64 ((rd_T61 l0 x7_1).f2.f0.f0), .string ((rd_T61 l0 x7_1).f2.f0.f1), .slice A339_4 ((rd_T61 l0 x7_1).f2.f0.f2).length c339_4, .string ((rd_T61 l0 x7_1).f2.f0.f3), .int .i64 ((rd_T61 l0 x7_1).f2.f1), .int .i64 ((rd_T61 l0 x7_1).f2.f2)] 61 (0, 0)) (bq BK340.out) hb); replace HB := ak (below_step (bl1 HB.out GE340.out) hb); clear hb))
       go_ret
       exact rz (bl1 HB.out GE340.out)
     ·rw [if_neg c4] at H
      exact absurd H (by simp)
    ·rw [if_neg c3] at H
     exact absurd H (by simp)
   ·rw [if_neg c2] at H
    have c2b0 := decide_eq_false c2
    clear c2
    obtain rfl := Option.some.inj H
    go_wp2
    go_ret
    exact rz (bl HB.out)

/-! ### spec_GoodGateway: function 9 -/
def spec_GoodGateway.l0 : Nat → List (S61) → Int → Int → ByteArray → ByteArray → Int → ByteArray → ByteArray → Bool → Int → List (S61) → Option (Bool)
 | 0, _, _, _, _, _, _, _, _, _, _, _ => none
 | k + 1, x6, x7, x8, x343000, x343001, x343002, x343003, x343004, x343005, x343006, x343007 => if x8 < x7 then (if 0 ≤ x8 then (if x8 < (x6.length : Int) then (if ((rd_T61 x6 x8).f2.f2) > x343006 then (some false) else (spec_GoodGateway.l0 k x6 x7 (wrap64 (x8 + 1)) x343000 x343001 x343002 x343003 x343004 x343005 x343006 x343007)) else (none)) else (none)) else ((spec_GoodUrl.f k x343000 x343001 x343002 x343003 x343004 x343005).bind fun t345 => (if t345 = true then ((spec_l1In.f x343006 0 253402300799).bind fun t346 => (if t346 = true then ((spec_l9Items.f k x343007).bind fun t347 => (some t347)) else (some false))) else (some false)))
def spec_GoodGateway.f (k : Nat) (a0_0 : ByteArray) (a0_1 : ByteArray) (a0_2 : Int) (a0_3 : ByteArray) (a0_4 : ByteArray) (a0_5 : Bool) (a0_6 : Int) (l0_7 : List (S61)) : Option (Bool) := spec_GoodGateway.l0 k l0_7 (l0_7.length : Int) 0 a0_0 a0_1 a0_2 a0_3 a0_4 a0_5 a0_6 l0_7
theorem spec_GoodGateway.mono_l : ∀ k, (∀ y0 y1 y2 y3 y4 y5 y6 y7 y8 y9 y10, LeO (spec_GoodGateway.l0 k y0 y1 y2 y3 y4 y5 y6 y7 y8 y9 y10) (spec_GoodGateway.l0 (k + 1) y0 y1 y2 y3 y4 y5 y6 y7 y8 y9 y10))
 | 0 => fun _ _ _ _ _ _ _ _ _ _ _ r h => by simp [spec_GoodGateway.l0] at h
 | k + 1 => by
  have ih0 := spec_GoodGateway.mono_l k
  ·intro y0 y1 y2 y3 y4 y5 y6 y7 y8 y9 y10
   unfold spec_GoodGateway.l0
   repeat' with_reducible first | exact ih0 _ _ _ _ _ _ _ _ _ _ _ | exact spec_GoodUrl.mono _ _ _ _ _ _ _ | exact spec_l9Items.mono _ _ | exact LeO.refl _ | exact LeO.none _ | refine LeO.ite ?_ ?_ | refine LeO.bind ?_ (fun _ => ?_)
theorem spec_GoodGateway.mono : ∀ a0 a1 a2 a3 a4 a5 a6 a7 k, LeO (spec_GoodGateway.f k a0 a1 a2 a3 a4 a5 a6 a7) (spec_GoodGateway.f (k + 1) a0 a1 a2 a3 a4 a5 a6 a7) := by
 intro a0 a1 a2 a3 a4 a5 a6 a7 k
 have ih0 := spec_GoodGateway.mono_l k
 unfold spec_GoodGateway.f
 repeat' with_reducible first | exact ih0 _ _ _ _ _ _ _ _ _ _ _ | exact spec_GoodUrl.mono _ _ _ _ _ _ _ | exact spec_l9Items.mono _ _ | exact LeO.refl _ | exact LeO.none _ | refine LeO.ite ?_ ?_ | refine LeO.bind ?_ (fun _ => ?_)
set_option maxHeartbeats 8000000 in
set_option maxRecDepth 100000 in
theorem spec_GoodGateway.calls (k : Nat) (a0_0 : ByteArray) (a0_1 : ByteArray) (a0_2 : Int) (a0_3 : ByteArray) (a0_4 : ByteArray) (a0_5 : Bool) (a0_6 : Int) (A0_7 : Option Addr) (c0_7 : Nat) (l0_7 : List (S61)) (r : Bool) (w : World) (hr0_7 : Kd.C k61 w A0_7 l0_7.length l0_7) (hc0_7 : l0_7.length ≤ c0_7) (h : spec_GoodGateway.f k a0_0 a0_1 a0_2 a0_3 a0_4 a0_5 a0_6 l0_7 = some r) :
  Calls Tryz.prog 9 #[.agg #[.string a0_0, .string a0_1, .int .i64 a0_2, .string a0_3, .string a0_4, .bool a0_5, .int .i64 a0_6, .slice A0_7 l0_7.length c0_7]] w fun e w' => e = .returned (.bool r) ∧ Below w.heap.size w w' := by
 have hu32 := Tryz.underlying32
 have hu61 := Tryz.underlying61
 have hu29 := Tryz.underlying29
 have HR0_7 := ak hr0_7
 have HC0_7 := ak hc0_7
 clear hr0_7 hc0_7
 have HB := ak (Below.refl w.heap.size w)
 have H : (spec_GoodGateway.l0 k l0_7 (l0_7.length : Int) 0 a0_0 a0_1 a0_2 a0_3 a0_4 a0_5 a0_6 l0_7) = some r := h
 clear h
 have H' := ak H
 clear H
 go_enter Tryz.func9, Tryz.ntmps9
 go_wp2_with (first | ((with_reducible refine gd 1 ?_); refine bE 1 #[.string a0_0, .string a0_1, .int .i64 a0_2, .string a0_3, .string a0_4, .bool a0_5, .int .i64 a0_6, .slice A0_7 l0_7.length c0_7] 32 ?_; intro gb342 hg w2 hbox hb; have BK342 := ak hbox; have GW342 := gs hg (bl HB.out); have GE342 := gs hg (bl HB.out); replace HB := ak (below_step (bl HB.out) hb); clear hb hbox hg; obtain ⟨_, _, _, _, _, _, _, _, _, _, _, _, _, _, _, _⟩ := b8 BK342.out))
 go_loopg [8] k (fun kq v8 w' => ∃ (x8_1 : Int), v8 = .int .i64 x8_1 ∧ Aside0 (spec_GoodGateway.l0 kq l0_7 (l0_7.length : Int) x8_1 a0_0 a0_1 a0_2 a0_3 a0_4 a0_5 a0_6 l0_7 = some r) ∧ Aside0 (kq ≤ k) ∧ Aside0 (w'.heap[gb342]? = some (.cells #[.string a0_0, .string a0_1, .int .i64 a0_2, .string a0_3, .string a0_4, .bool a0_5, .int .i64 a0_6, (.slice A0_7 l0_7.length c0_7)] 32 (0, 0))) ∧ Aside0 (Below w.heap.size w w'))
 case atStart => exact ⟨(0), (by first | rfl | (simp; done) | (simp [*]; done)), H', ⟨Nat.le_refl _⟩, ⟨bk BK342.out⟩, ⟨bl1 HB.out GE342.out⟩⟩
 case round =>
  clear H'
  try clear p2
  try clear hcz3_0
  try clear hcz3_1
  try clear hcz3_2
  try clear hcz3_3
  try clear hcz3_4
  try clear hcz3_5
  try clear hcz3_6
  try clear hcz3_7
  try clear hfz3_0
  try clear hfz3_1
  try clear hfz3_2
  try clear hfz3_3
  try clear hfz3_4
  try clear hfz3_5
  try clear hfz3_6
  try clear hfz3_7
  obtain ⟨x8_1, rfl, HA, HK1, BK342, HB⟩ := hrel
  cases gk with
  | zero => exact absurd HA.out (by simp [spec_GoodGateway.l0])
  | succ k1 =>
   have H := HA.out
   clear HA
   simp only [spec_GoodGateway.l0] at H
   by_cases c4 : x8_1 < (l0_7.length : Int)
   ·rw [if_pos c4] at H
    have c4b0 := decide_eq_true c4
    clear c4
    by_cases c5 : 0 ≤ x8_1
    ·rw [if_pos c5] at H
     have c5b0 := decide_eq_true c5
     clear c5
     by_cases c6 : x8_1 < (l0_7.length : Int)
     ·rw [if_pos c6] at H
      have c6b0 := decide_eq_true c6
      clear c6
      by_cases c7 : ((rd_T61 l0_7 x8_1).f2.f2) > a0_6
      ·rw [if_pos c7] at H
       have c7b0 : decide (a0_6 < ((rd_T61 l0_7 x8_1).f2.f2)) = true := decide_eq_true c7
       clear c7
       obtain rfl := Option.some.inj H
       have p343 : 0 ≤ (x8_1 : Int) := od
       have q343 : x8_1 < (l0_7.length : Int) := od
       obtain ⟨ad343, A343_1, c343_1, A343_4, c343_4, e343, hx343_0, hx343_1, hx343_2, hx343_3, hx343_4, hx343_5, hx343_6, hx343_7, hl343_1, hi343_1, hl343_4, hi343_4⟩ := at_T61 HR0_7.out x8_1 p343 q343
       cases e343
       replace hx343_0 := (HB.out.cell (World.block_lt_of_cell? w _ hx343_0)).trans hx343_0
       replace hx343_1 := (HB.out.cell (World.block_lt_of_cell? w _ hx343_1)).trans hx343_1
       replace hx343_2 := (HB.out.cell (World.block_lt_of_cell? w _ hx343_2)).trans hx343_2
       replace hx343_3 := (HB.out.cell (World.block_lt_of_cell? w _ hx343_3)).trans hx343_3
       replace hx343_4 := (HB.out.cell (World.block_lt_of_cell? w _ hx343_4)).trans hx343_4
       replace hx343_5 := (HB.out.cell (World.block_lt_of_cell? w _ hx343_5)).trans hx343_5
       replace hx343_6 := (HB.out.cell (World.block_lt_of_cell? w _ hx343_6)).trans hx343_6
       replace hx343_7 := (HB.out.cell (World.block_lt_of_cell? w _ hx343_7)).trans hx343_7
       have HR343_1 := ak hi343_1
       have HC343_1 := ak hl343_1
       clear hi343_1 hl343_1
       have HR343_4 := ak hi343_4
       have HC343_4 := ak hl343_4
       clear hi343_4 hl343_4
       replace p343 := eq_true p343
       replace q343 := eq_true q343
       go_wp2_with (first | ((with_reducible refine gd 4 ?_); refine bE 4 #[.string (⟨#[]⟩ : ByteArray), .slice none 0 0, .int .i64 0, .string (⟨#[]⟩ : ByteArray), .slice none 0 0, .string (⟨#[]⟩ : ByteArray), .int .i64 0, .int .i64 0] 61 ?_; intro gb344 hg w8 hbox hb; have BK344 := ak hbox; have GW344 := gs hg (bl1 HB.out GE342.out); have GE344 := gs hg (bl1 HB.out GE342.out); replace HB := ak (below_step (bl1 HB.out GE342.out) hb); have NB342_344 := nl hg BK342.out; have NB344_342 := ng hg BK342.out; replace BK342 := ak (blk_below (bk BK342.out) hb); clear hb hbox hg; have hnb9 := NB344_342.out; have hnc9 := NB342_344.out; obtain ⟨_, _, _, _, _, _, _, _, _, _, _, _, _, _, _, _⟩ := b8 BK344.out; obtain ⟨_, _, _, _, _, _, _, _, _, _, _, _, _, _, _, _⟩ := b8 BK342.out))
       go_ret
       exact rz (bl2 HB.out GE342.out GE344.out)
      ·rw [if_neg c7] at H
       have c7b0 : decide (a0_6 < ((rd_T61 l0_7 x8_1).f2.f2)) = false := decide_eq_false c7
       clear c7
       have H' := ak H
       clear H
       have p343 : 0 ≤ (x8_1 : Int) := od
       have q343 : x8_1 < (l0_7.length : Int) := od
       obtain ⟨ad343, A343_1, c343_1, A343_4, c343_4, e343, hx343_0, hx343_1, hx343_2, hx343_3, hx343_4, hx343_5, hx343_6, hx343_7, hl343_1, hi343_1, hl343_4, hi343_4⟩ := at_T61 HR0_7.out x8_1 p343 q343
       cases e343
       replace hx343_0 := (HB.out.cell (World.block_lt_of_cell? w _ hx343_0)).trans hx343_0
       replace hx343_1 := (HB.out.cell (World.block_lt_of_cell? w _ hx343_1)).trans hx343_1
       replace hx343_2 := (HB.out.cell (World.block_lt_of_cell? w _ hx343_2)).trans hx343_2
       replace hx343_3 := (HB.out.cell (World.block_lt_of_cell? w _ hx343_3)).trans hx343_3
       replace hx343_4 := (HB.out.cell (World.block_lt_of_cell? w _ hx343_4)).trans hx343_4
       replace hx343_5 := (HB.out.cell (World.block_lt_of_cell? w _ hx343_5)).trans hx343_5
       replace hx343_6 := (HB.out.cell (World.block_lt_of_cell? w _ hx343_6)).trans hx343_6
       replace hx343_7 := (HB.out.cell (World.block_lt_of_cell? w _ hx343_7)).trans hx343_7
       have HR343_1 := ak hi343_1
       have HC343_1 := ak hl343_1
       clear hi343_1 hl343_1
       have HR343_4 := ak hi343_4
       have HC343_4 := ak hl343_4
       clear hi343_4 hl343_4
       replace p343 := eq_true p343
       replace q343 := eq_true q343
       go_wp2_with (first | ((with_reducible refine gd 4 ?_); refine bE 4 #[.string (⟨#[]⟩ : ByteArray), .slice none 0 0, .int .i64 0, .string (⟨#[]⟩ : ByteArray), .slice none 0 0, .string (⟨#[]⟩ : ByteArray), .int .i64 0, .int .i64 0] 61 ?_; intro gb344 hg w12 hbox hb; have BK344 := ak hbox; have GW344 := gs hg (bl1 HB.out GE342.out); have GE344 := gs hg (bl1 HB.out GE342.out); replace HB := ak (below_step (bl1 HB.out GE342.out) hb); have NB342_344 := nl hg BK342.out; have NB344_342 := ng hg BK342.out; replace BK342 := ak (blk_below (bk BK342.out) hb); clear hb hbox hg; have hnb13 := NB344_342.out; have hnc13 := NB342_344.out; obtain ⟨_, _, _, _, _, _, _, _, _, _, _, _, _, _, _, _⟩ := b8 BK344.out; obtain ⟨_, _, _, _, _, _, _, _, _, _, _, _, _, _, _, _⟩ := b8 BK342.out))
       go_roundg k1
       case measure => have := HK1.out; omega
       case rel => exact ⟨(wrap64 (x8_1 + 1)), (by first | rfl | (simp; done) | (simp [*]; done)), H', ⟨by have := HK1.out; omega⟩, ⟨by (with_reducible repeat (first | refine blk_drewN ?_ _ | refine blk_drew ?_ | refine blk_alloc ?_ _)); refine blk_far ?_ NB342_344.out _; (with_reducible repeat (first | refine blk_drewN ?_ _ | refine blk_drew ?_ | refine blk_alloc ?_ _)); refine blk_far ?_ NB342_344.out _; (with_reducible repeat (first | refine blk_drewN ?_ _ | refine blk_drew ?_ | refine blk_alloc ?_ _)); refine blk_far ?_ NB342_344.out _; (with_reducible repeat (first | refine blk_drewN ?_ _ | refine blk_drew ?_ | refine blk_alloc ?_ _)); refine blk_far ?_ NB342_344.out _; (with_reducible repeat (first | refine blk_drewN ?_ _ | refine blk_drew ?_ | refine blk_alloc ?_ _)); refine blk_far ?_ NB342_344.out _; (with_reducible repeat (first | refine blk_drewN ?_ _ | refine blk_drew ?_ | refine blk_alloc ?_ _)); refine blk_far ?_ NB342_344.out _; (with_reducible repeat (first | refine blk_drewN ?_ _ | refine blk_drew ?_ | refine blk_alloc ?_ _)); refine blk_far ?_ NB342_344.out _; (with_reducible repeat (first | refine blk_drewN ?_ _ | refine blk_drew ?_ | refine blk_alloc ?_ _)); refine blk_far ?_ NB342_344.out _; exact bk BK342.out⟩, ⟨bl2 HB.out GE342.out GE344.out⟩⟩
     ·rw [if_neg c6] at H
      exact absurd H (by simp)
    ·rw [if_neg c5] at H
     exact absurd H (by simp)
   ·rw [if_neg c4] at H
    have c4b0 := decide_eq_false c4
    clear c4
    replace H := bs H
    obtain ⟨t345, A16, H⟩ := H
    try dsimp only at H
    by_cases c17 : t345 = true
    ·subst c17
     rw [if_pos rfl] at H
     replace H := bs H
     obtain ⟨t346, A18, H⟩ := H
     try dsimp only at H
     by_cases c19 : t346 = true
     ·subst c19
      rw [if_pos rfl] at H
      replace H := bs H
      obtain ⟨t347, A20, H⟩ := H
      try dsimp only at H
      obtain rfl := Option.some.inj H
      obtain ⟨_, _, _, _, _, _, _, _, _, _, _, _, _, _, _, _⟩ := b8 BK342.out
      go_wp2_with (first | ((with_reducible refine gc 36 ?_); refine gL 36 Tryz.func36 (some 21) #[.agg #[.string a0_0, .string a0_1, .int .i64 a0_2, .string a0_3, .string a0_4, .bool a0_5]] ?_; (with_reducible refine (spec_GoodUrl.calls k1 a0_0 a0_1 a0_2 a0_3 a0_4 a0_5 true _ A16.out).mono ?_); rintro e w22 ⟨rfl, hb⟩; refine ⟨_, rfl, ?_⟩; replace BK342 := ak (blk_below (bk BK342.out) hb); replace HB := ak (below_step (bl1 HB.out GE342.out) hb); clear hb; obtain ⟨_, _, _, _, _, _, _, _, _, _, _, _, _, _, _, _⟩ := b8 BK342.out) | (go_at_call 37; (with_reducible refine (spec_l1In.calls a0_6 0 253402300799 true _ A18.out).mono ?_); rintro e w' ⟨rfl, ⟨nd, rfl⟩⟩) | (go_at_call 38; (with_reducible refine (spec_l9Items.calls k1 _ _ l0_7 t347 _ ?side1 ?side2 A20.out).mono ?_); (case side1 => exact kc (Kd.C_below HR0_7.out (bl1 HB.out GE342.out))); (case side2 => exact HC0_7.out); rintro e w24 ⟨rfl, hb⟩; replace BK342 := ak (blk_below (bk BK342.out) hb); replace HB := ak (below_step (bl1 HB.out GE342.out) hb); clear hb))
      go_ret
      exact rz (bl1 HB.out GE342.out)
     ·replace c19 := Bool.eq_false_iff.mpr c19
      subst c19
      rw [if_neg ff] at H
      obtain rfl := Option.some.inj H
      obtain ⟨_, _, _, _, _, _, _, _, _, _, _, _, _, _, _, _⟩ := b8 BK342.out
      go_wp2_with (first | ((with_reducible refine gc 36 ?_); refine gL 36 Tryz.func36 (some 21) #[.agg #[.string a0_0, .string a0_1, .int .i64 a0_2, .string a0_3, .string a0_4, .bool a0_5]] ?_; (with_reducible refine (spec_GoodUrl.calls k1 a0_0 a0_1 a0_2 a0_3 a0_4 a0_5 true _ A16.out).mono ?_); rintro e w26 ⟨rfl, hb⟩; refine ⟨_, rfl, ?_⟩; replace BK342 := ak (blk_below (bk BK342.out) hb); replace HB := ak (below_step (bl1 HB.out GE342.out) hb); clear hb; obtain ⟨_, _, _, _, _, _, _, _, _, _, _, _, _, _, _, _⟩ := b8 BK342.out) | (go_at_call 37; (with_reducible refine (spec_l1In.calls a0_6 0 253402300799 false _ A18.out).mono ?_); rintro e w' ⟨rfl, ⟨nd, rfl⟩⟩))
      go_ret
      exact rz (bl1 HB.out GE342.out)
    ·replace c17 := Bool.eq_false_iff.mpr c17
     subst c17
     rw [if_neg ff] at H
     obtain rfl := Option.some.inj H
     obtain ⟨_, _, _, _, _, _, _, _, _, _, _, _, _, _, _, _⟩ := b8 BK342.out
     go_wp2_with (first | ((with_reducible refine gc 36 ?_); refine gL 36 Tryz.func36 (some 21) #[.agg #[.string a0_0, .string a0_1, .int .i64 a0_2, .string a0_3, .string a0_4, .bool a0_5]] ?_; (with_reducible refine (spec_GoodUrl.calls k1 a0_0 a0_1 a0_2 a0_3 a0_4 a0_5 false _ A16.out).mono ?_); rintro e w29 ⟨rfl, hb⟩; refine ⟨_, rfl, ?_⟩; replace BK342 := ak (blk_below (bk BK342.out) hb); replace HB := ak (below_step (bl1 HB.out GE342.out) hb); clear hb))
     go_ret
     exact rz (bl1 HB.out GE342.out)

/-! ### spec_KeptFor: function 13 -/
def spec_KeptFor.l0 : Nat → ByteArray → Int → List (S61) → Int → Int → Option (Int × Bool)
 | 0, _, _, _, _, _ => none
 | k + 1, x1, x6, x13, x14, x15 => if x15 < x14 then (if 0 ≤ x15 then (if x15 < (x13.length : Int) then (if ((rd_T61 x13 x15).f0).toList = x1.toList then (spec_KeptFor.l0 k x1 (wrap64 (x6 + 1)) x13 x14 (wrap64 (x15 + 1))) else (spec_KeptFor.l0 k x1 x6 x13 x14 (wrap64 (x15 + 1)))) else (none)) else (none)) else (some (x6, true))
def spec_KeptFor.f (k : Nat) (a0_0 : ByteArray) (a0_1 : ByteArray) (a0_2 : Int) (a0_3 : ByteArray) (a0_4 : ByteArray) (a0_5 : Bool) (a0_6 : Int) (l0_7 : List (S61)) (a1 : ByteArray) : Option (Int × Bool) := (spec_GoodGateway.f k a0_0 a0_1 a0_2 a0_3 a0_4 a0_5 a0_6 l0_7).bind fun t349 => (if t349 = true then (spec_KeptFor.l0 k a1 0 l0_7 (l0_7.length : Int) 0) else (some (0, false)))
theorem spec_KeptFor.mono_l : ∀ k, (∀ y0 y1 y2 y3 y4, LeO (spec_KeptFor.l0 k y0 y1 y2 y3 y4) (spec_KeptFor.l0 (k + 1) y0 y1 y2 y3 y4))
 | 0 => fun _ _ _ _ _ r h => by simp [spec_KeptFor.l0] at h
 | k + 1 => by
  have ih0 := spec_KeptFor.mono_l k
  ·intro y0 y1 y2 y3 y4
   unfold spec_KeptFor.l0
   repeat' with_reducible first | exact ih0 _ _ _ _ _ | exact spec_GoodGateway.mono _ _ _ _ _ _ _ _ _ | exact LeO.refl _ | exact LeO.none _ | refine LeO.ite ?_ ?_ | refine LeO.bind ?_ (fun _ => ?_)
theorem spec_KeptFor.mono : ∀ a0 a1 a2 a3 a4 a5 a6 a7 a8 k, LeO (spec_KeptFor.f k a0 a1 a2 a3 a4 a5 a6 a7 a8) (spec_KeptFor.f (k + 1) a0 a1 a2 a3 a4 a5 a6 a7 a8) := by
 intro a0 a1 a2 a3 a4 a5 a6 a7 a8 k
 have ih0 := spec_KeptFor.mono_l k
 unfold spec_KeptFor.f
 repeat' with_reducible first | exact ih0 _ _ _ _ _ | exact spec_GoodGateway.mono _ _ _ _ _ _ _ _ _ | exact LeO.refl _ | exact LeO.none _ | refine LeO.ite ?_ ?_ | refine LeO.bind ?_ (fun _ => ?_)
set_option maxHeartbeats 8000000 in
set_option maxRecDepth 100000 in
theorem spec_KeptFor.calls (k : Nat) (a0_0 : ByteArray) (a0_1 : ByteArray) (a0_2 : Int) (a0_3 : ByteArray) (a0_4 : ByteArray) (a0_5 : Bool) (a0_6 : Int) (A0_7 : Option Addr) (c0_7 : Nat) (l0_7 : List (S61)) (a1 : ByteArray) (r1 : Int) (r2 : Bool) (w : World) (hr0_7 : Kd.C k61 w A0_7 l0_7.length l0_7) (hc0_7 : l0_7.length ≤ c0_7) (h : spec_KeptFor.f k a0_0 a0_1 a0_2 a0_3 a0_4 a0_5 a0_6 l0_7 a1 = some (r1, r2)) :
  Calls Tryz.prog 13 #[.agg #[.string a0_0, .string a0_1, .int .i64 a0_2, .string a0_3, .string a0_4, .bool a0_5, .int .i64 a0_6, .slice A0_7 l0_7.length c0_7], .string a1] w fun e w' => e = .returned (.tuple #[.int .i64 r1, .bool r2]) ∧ Below w.heap.size w w' := by
 have hu32 := Tryz.underlying32
 have hu61 := Tryz.underlying61
 have HR0_7 := ak hr0_7
 have HC0_7 := ak hc0_7
 clear hr0_7 hc0_7
 have HB := ak (Below.refl w.heap.size w)
 unfold spec_KeptFor.f at h; have H := h
 clear h
 replace H := bs H
 obtain ⟨t349, A3, H⟩ := H
 try dsimp only at H
 by_cases c4 : t349 = true
 ·subst c4
  rw [if_pos rfl] at H
  have H' := ak H
  clear H
  go_enter Tryz.func13, Tryz.ntmps13
  go_wp2_with (first | ((with_reducible refine gd 2 ?_); refine bE 2 #[.string a0_0, .string a0_1, .int .i64 a0_2, .string a0_3, .string a0_4, .bool a0_5, .int .i64 a0_6, .slice A0_7 l0_7.length c0_7] 32 ?_; intro gb348 hg w5 hbox hb; have BK348 := ak hbox; have GW348 := gs hg (bl HB.out); have GE348 := gs hg (bl HB.out); replace HB := ak (below_step (bl HB.out) hb); clear hb hbox hg; obtain ⟨_, _, _, _, _, _, _, _, _, _, _, _, _, _, _, _⟩ := b8 BK348.out) | ((with_reducible refine gc 9 ?_); refine gL 9 Tryz.func9 (some 10) #[.agg #[.string a0_0, .string a0_1, .int .i64 a0_2, .string a0_3, .string a0_4, .bool a0_5, .int .i64 a0_6, .slice A0_7 l0_7.length c0_7]] ?_; (with_reducible refine (spec_GoodGateway.calls k a0_0 a0_1 a0_2 a0_3 a0_4 a0_5 a0_6 _ _ l0_7 true _ ?side1 ?side2 A3.out).mono ?_); (case side1 => exact kc (Kd.C_below HR0_7.out HB.out)); (case side2 => exact HC0_7.out); rintro e w7 ⟨rfl, hb⟩; refine ⟨_, rfl, ?_⟩; replace BK348 := ak (blk_below (bk BK348.out) hb); replace HB := ak (below_step (bl1 HB.out GE348.out) hb); clear hb; obtain ⟨_, _, _, _, _, _, _, _, _, _, _, _, _, _, _, _⟩ := b8 BK348.out))
  go_loopg [6, 15] k (fun kq v6 v15 w' => ∃ (x6_1 : Int) (x15_1 : Int), v6 = .int .i64 x6_1 ∧ v15 = .int .i64 x15_1 ∧ Aside0 (spec_KeptFor.l0 kq a1 x6_1 l0_7 (l0_7.length : Int) x15_1 = some (r1, r2)) ∧ Aside0 (kq ≤ k) ∧ Aside0 (w'.heap[gb348]? = some (.cells #[.string a0_0, .string a0_1, .int .i64 a0_2, .string a0_3, .string a0_4, .bool a0_5, .int .i64 a0_6, (.slice A0_7 l0_7.length c0_7)] 32 (0, 0))) ∧ Aside0 (Below w.heap.size w w'))
  case atStart => exact ⟨(0), (0), (by first | rfl | (simp; done) | (simp [*]; done)), (by first | rfl | (simp; done) | (simp [*]; done)), H', ⟨Nat.le_refl _⟩, ⟨bk BK348.out⟩, ⟨bl1 HB.out GE348.out⟩⟩
  case round =>
   clear H'
   try clear c1
   try clear p2
   try clear c4
   try clear hcz6_0
   try clear hcz6_1
   try clear hcz6_2
   try clear hcz6_3
   try clear hcz6_4
   try clear hcz6_5
   try clear hcz6_6
   try clear hcz6_7
   try clear hcz8_0
   try clear hcz8_1
   try clear hcz8_2
   try clear hcz8_3
   try clear hcz8_4
   try clear hcz8_5
   try clear hcz8_6
   try clear hcz8_7
   try clear hfz6_0
   try clear hfz6_1
   try clear hfz6_2
   try clear hfz6_3
   try clear hfz6_4
   try clear hfz6_5
   try clear hfz6_6
   try clear hfz6_7
   try clear hfz8_0
   try clear hfz8_1
   try clear hfz8_2
   try clear hfz8_3
   try clear hfz8_4
   try clear hfz8_5
   try clear hfz8_6
   try clear hfz8_7
   obtain ⟨x6_1, x15_1, rfl, rfl, HA, HK1, BK348, HB⟩ := hrel
   cases gk with
   | zero => exact absurd HA.out (by simp [spec_KeptFor.l0])
   | succ k1 =>
    have H := HA.out
    clear HA
    simp only [spec_KeptFor.l0] at H
    by_cases c9 : x15_1 < (l0_7.length : Int)
    ·rw [if_pos c9] at H
     have c9b0 := decide_eq_true c9
     clear c9
     by_cases c10 : 0 ≤ x15_1
     ·rw [if_pos c10] at H
      have c10b0 := decide_eq_true c10
      clear c10
      by_cases c11 : x15_1 < (l0_7.length : Int)
      ·rw [if_pos c11] at H
       have c11b0 := decide_eq_true c11
       clear c11
       by_cases c12 : ((rd_T61 l0_7 x15_1).f0).toList = a1.toList
       ·rw [if_pos c12] at H
        have c12b0 : (((rd_T61 l0_7 x15_1).f0).toList == a1.toList) = true := beq_iff_eq.mpr c12
        have c12b1 : (((rd_T61 l0_7 x15_1).f0).toList != a1.toList) = false := bne_eq_false_iff_eq.mpr c12
        clear c12
        have H' := ak H
        clear H
        have p350 : 0 ≤ (x15_1 : Int) := od
        have q350 : x15_1 < (l0_7.length : Int) := od
        obtain ⟨ad350, A350_1, c350_1, A350_4, c350_4, e350, hx350_0, hx350_1, hx350_2, hx350_3, hx350_4, hx350_5, hx350_6, hx350_7, hl350_1, hi350_1, hl350_4, hi350_4⟩ := at_T61 HR0_7.out x15_1 p350 q350
        cases e350
        replace hx350_0 := (HB.out.cell (World.block_lt_of_cell? w _ hx350_0)).trans hx350_0
        replace hx350_1 := (HB.out.cell (World.block_lt_of_cell? w _ hx350_1)).trans hx350_1
        replace hx350_2 := (HB.out.cell (World.block_lt_of_cell? w _ hx350_2)).trans hx350_2
        replace hx350_3 := (HB.out.cell (World.block_lt_of_cell? w _ hx350_3)).trans hx350_3
        replace hx350_4 := (HB.out.cell (World.block_lt_of_cell? w _ hx350_4)).trans hx350_4
        replace hx350_5 := (HB.out.cell (World.block_lt_of_cell? w _ hx350_5)).trans hx350_5
        replace hx350_6 := (HB.out.cell (World.block_lt_of_cell? w _ hx350_6)).trans hx350_6
        replace hx350_7 := (HB.out.cell (World.block_lt_of_cell? w _ hx350_7)).trans hx350_7
        have HR350_1 := ak hi350_1
        have HC350_1 := ak hl350_1
        clear hi350_1 hl350_1
        have HR350_4 := ak hi350_4
        have HC350_4 := ak hl350_4
        clear hi350_4 hl350_4
        replace p350 := eq_true p350
        replace q350 := eq_true q350
        go_wp2_with (first | ((with_reducible refine gd 8 ?_); refine bE 8 #[.string (⟨#[]⟩ : ByteArray), .slice none 0 0, .int .i64 0, .string (⟨#[]⟩ : ByteArray), .slice none 0 0, .string (⟨#[]⟩ : ByteArray), .int .i64 0, .int .i64 0] 61 ?_; intro gb351 hg w13 hbox hb; have BK351 := ak hbox; have GW351 := gs hg (bl1 HB.out GE348.out); have GE351 := gs hg (bl1 HB.out GE348.out); replace HB := ak (below_step (bl1 HB.out GE348.out) hb); have NB348_351 := nl hg BK348.out; have NB351_348 := ng hg BK348.out; replace BK348 := ak (blk_below (bk BK348.out) hb); clear hb hbox hg; have hnb14 := NB351_348.out; have hnc14 := NB348_351.out; obtain ⟨_, _, _, _, _, _, _, _, _, _, _, _, _, _, _, _⟩ := b8 BK351.out))
        go_roundg k1
        case measure => have := HK1.out; omega
        case rel => exact ⟨(wrap64 (x6_1 + 1)), (wrap64 (x15_1 + 1)), (by first | rfl | (simp; done) | (simp [*]; done)), (by first | rfl | (simp; done) | (simp [*]; done)), H', ⟨by have := HK1.out; omega⟩, ⟨by (with_reducible repeat (first | refine blk_drewN ?_ _ | refine blk_drew ?_ | refine blk_alloc ?_ _)); refine blk_far ?_ NB348_351.out _; (with_reducible repeat (first | refine blk_drewN ?_ _ | refine blk_drew ?_ | refine blk_alloc ?_ _)); refine blk_far ?_ NB348_351.out _; (with_reducible repeat (first | refine blk_drewN ?_ _ | refine blk_drew ?_ | refine blk_alloc ?_ _)); refine blk_far ?_ NB348_351.out _; (with_reducible repeat (first | refine blk_drewN ?_ _ | refine blk_drew ?_ | refine blk_alloc ?_ _)); refine blk_far ?_ NB348_351.out _; (with_reducible repeat (first | refine blk_drewN ?_ _ | refine blk_drew ?_ | refine blk_alloc ?_ _)); refine blk_far ?_ NB348_351.out _; (with_reducible repeat (first | refine blk_drewN ?_ _ | refine blk_drew ?_ | refine blk_alloc ?_ _)); refine blk_far ?_ NB348_351.out _; (with_reducible repeat (first | refine blk_drewN ?_ _ | refine blk_drew ?_ | refine blk_alloc ?_ _)); refine blk_far ?_ NB348_351.out _; (with_reducible repeat (first | refine blk_drewN ?_ _ | refine blk_drew ?_ | refine blk_alloc ?_ _)); refine blk_far ?_ NB348_351.out _; exact bk BK348.out⟩, ⟨bl2 HB.out GE348.out GE351.out⟩⟩
       ·rw [if_neg c12] at H
        have c12b0 : (((rd_T61 l0_7 x15_1).f0).toList == a1.toList) = false := beq_eq_false_iff_ne.mpr c12
        have c12b1 : (((rd_T61 l0_7 x15_1).f0).toList != a1.toList) = true := bne_iff_ne.mpr c12
        have H' := ak H
        clear H
        have p350 : 0 ≤ (x15_1 : Int) := od
        have q350 : x15_1 < (l0_7.length : Int) := od
        obtain ⟨ad350, A350_1, c350_1, A350_4, c350_4, e350, hx350_0, hx350_1, hx350_2, hx350_3, hx350_4, hx350_5, hx350_6, hx350_7, hl350_1, hi350_1, hl350_4, hi350_4⟩ := at_T61 HR0_7.out x15_1 p350 q350
        cases e350
        replace hx350_0 := (HB.out.cell (World.block_lt_of_cell? w _ hx350_0)).trans hx350_0
        replace hx350_1 := (HB.out.cell (World.block_lt_of_cell? w _ hx350_1)).trans hx350_1
        replace hx350_2 := (HB.out.cell (World.block_lt_of_cell? w _ hx350_2)).trans hx350_2
        replace hx350_3 := (HB.out.cell (World.block_lt_of_cell? w _ hx350_3)).trans hx350_3
        replace hx350_4 := (HB.out.cell (World.block_lt_of_cell? w _ hx350_4)).trans hx350_4
        replace hx350_5 := (HB.out.cell (World.block_lt_of_cell? w _ hx350_5)).trans hx350_5
        replace hx350_6 := (HB.out.cell (World.block_lt_of_cell? w _ hx350_6)).trans hx350_6
        replace hx350_7 := (HB.out.cell (World.block_lt_of_cell? w _ hx350_7)).trans hx350_7
        have HR350_1 := ak hi350_1
        have HC350_1 := ak hl350_1
        clear hi350_1 hl350_1
        have HR350_4 := ak hi350_4
        have HC350_4 := ak hl350_4
        clear hi350_4 hl350_4
        replace p350 := eq_true p350
        replace q350 := eq_true q350
        go_wp2_with (first | ((with_reducible refine gd 8 ?_); refine bE 8 #[.string (⟨#[]⟩ : ByteArray), .slice none 0 0, .int .i64 0, .string (⟨#[]⟩ : ByteArray), .slice none 0 0, .string (⟨#[]⟩ : ByteArray), .int .i64 0, .int .i64 0] 61 ?_; intro gb351 hg w16 hbox hb; have BK351 := ak hbox; have GW351 := gs hg (bl1 HB.out GE348.out); have GE351 := gs hg (bl1 HB.out GE348.out); replace HB := ak (below_step (bl1 HB.out GE348.out) hb); have NB348_351 := nl hg BK348.out; have NB351_348 := ng hg BK348.out; replace BK348 := ak (blk_below (bk BK348.out) hb); clear hb hbox hg; have hnb17 := NB351_348.out; have hnc17 := NB348_351.out; obtain ⟨_, _, _, _, _, _, _, _, _, _, _, _, _, _, _, _⟩ := b8 BK351.out))
        go_roundg k1
        case measure => have := HK1.out; omega
        case rel => exact ⟨(x6_1), (wrap64 (x15_1 + 1)), (by first | rfl | (simp; done) | (simp [*]; done)), (by first | rfl | (simp; done) | (simp [*]; done)), H', ⟨by have := HK1.out; omega⟩, ⟨by (with_reducible repeat (first | refine blk_drewN ?_ _ | refine blk_drew ?_ | refine blk_alloc ?_ _)); refine blk_far ?_ NB348_351.out _; (with_reducible repeat (first | refine blk_drewN ?_ _ | refine blk_drew ?_ | refine blk_alloc ?_ _)); refine blk_far ?_ NB348_351.out _; (with_reducible repeat (first | refine blk_drewN ?_ _ | refine blk_drew ?_ | refine blk_alloc ?_ _)); refine blk_far ?_ NB348_351.out _; (with_reducible repeat (first | refine blk_drewN ?_ _ | refine blk_drew ?_ | refine blk_alloc ?_ _)); refine blk_far ?_ NB348_351.out _; (with_reducible repeat (first | refine blk_drewN ?_ _ | refine blk_drew ?_ | refine blk_alloc ?_ _)); refine blk_far ?_ NB348_351.out _; (with_reducible repeat (first | refine blk_drewN ?_ _ | refine blk_drew ?_ | refine blk_alloc ?_ _)); refine blk_far ?_ NB348_351.out _; (with_reducible repeat (first | refine blk_drewN ?_ _ | refine blk_drew ?_ | refine blk_alloc ?_ _)); refine blk_far ?_ NB348_351.out _; (with_reducible repeat (first | refine blk_drewN ?_ _ | refine blk_drew ?_ | refine blk_alloc ?_ _)); refine blk_far ?_ NB348_351.out _; exact bk BK348.out⟩, ⟨bl2 HB.out GE348.out GE351.out⟩⟩
      ·rw [if_neg c11] at H
       exact absurd H (by simp)
     ·rw [if_neg c10] at H
      exact absurd H (by simp)
    ·rw [if_neg c9] at H
     have c9b0 := decide_eq_false c9
     clear c9
     simp only [Option.some.injEq, Prod.mk.injEq] at H
     obtain ⟨rfl, rfl⟩ := H
     go_wp2
     go_ret2
     exact rz (bl1 HB.out GE348.out)
 ·replace c4 := Bool.eq_false_iff.mpr c4
  subst c4
  rw [if_neg ff] at H
  simp only [Option.some.injEq, Prod.mk.injEq] at H
  obtain ⟨rfl, rfl⟩ := H
  go_enter Tryz.func13, Tryz.ntmps13
  go_wp2_with (first | ((with_reducible refine gd 2 ?_); refine bE 2 #[.string a0_0, .string a0_1, .int .i64 a0_2, .string a0_3, .string a0_4, .bool a0_5, .int .i64 a0_6, .slice A0_7 l0_7.length c0_7] 32 ?_; intro gb348 hg w19 hbox hb; have BK348 := ak hbox; have GW348 := gs hg (bl HB.out); have GE348 := gs hg (bl HB.out); replace HB := ak (below_step (bl HB.out) hb); clear hb hbox hg; obtain ⟨_, _, _, _, _, _, _, _, _, _, _, _, _, _, _, _⟩ := b8 BK348.out) | ((with_reducible refine gc 9 ?_); refine gL 9 Tryz.func9 (some 10) #[.agg #[.string a0_0, .string a0_1, .int .i64 a0_2, .string a0_3, .string a0_4, .bool a0_5, .int .i64 a0_6, .slice A0_7 l0_7.length c0_7]] ?_; (with_reducible refine (spec_GoodGateway.calls k a0_0 a0_1 a0_2 a0_3 a0_4 a0_5 a0_6 _ _ l0_7 false _ ?side1 ?side2 A3.out).mono ?_); (case side1 => exact kc (Kd.C_below HR0_7.out HB.out)); (case side2 => exact HC0_7.out); rintro e w21 ⟨rfl, hb⟩; refine ⟨_, rfl, ?_⟩; replace BK348 := ak (blk_below (bk BK348.out) hb); replace HB := ak (below_step (bl1 HB.out GE348.out) hb); clear hb))
  go_ret2
  exact rz (bl1 HB.out GE348.out)

/-! ### impl_within: function 78 -/
def impl_within.f (a0 : Int) (a1 : Int) (a2 : Int) : Option (Bool) := if a1 ≤ a0 then (some (decide (a0 ≤ a2))) else (some false)
set_option maxHeartbeats 8000000 in
set_option maxRecDepth 100000 in
theorem impl_within.calls (a0 : Int) (a1 : Int) (a2 : Int) (r : Bool) (w : World) (h : impl_within.f a0 a1 a2 = some r) :
  Calls Tryz.prog 78 #[.int .i64 a0, .int .i64 a1, .int .i64 a2] w fun e w' => e = .returned (.bool r) ∧ Drawn0 w w' := by
 have H : (if a1 ≤ a0 then (some (decide (a0 ≤ a2))) else (some false)) = some r := h
 clear h
 by_cases c4 : a1 ≤ a0
 ·rw [if_pos c4] at H
  have c4b0 := decide_eq_true c4
  clear c4
  obtain rfl := Option.some.inj H
  go_enter Tryz.func78, Tryz.ntmps78
  go_wp2
  go_ret
  exact ⟨by first | rfl | (simp; done) | (simp [*]; done) | (simp only [Ending.returned.injEq, Value.tuple.injEq, i64_w]; rfl) | (simp [i64_w]; rfl), by repeat (first | exact Drawn0.refl _ | apply Drawn0.step)⟩
 ·rw [if_neg c4] at H
  have c4b0 := decide_eq_false c4
  clear c4
  obtain rfl := Option.some.inj H
  go_enter Tryz.func78, Tryz.ntmps78
  go_wp2
  go_ret
  exact ⟨by first | rfl | (simp; done) | (simp [*]; done) | (simp only [Ending.returned.injEq, Value.tuple.injEq, i64_w]; rfl) | (simp [i64_w]; rfl), by repeat (first | exact Drawn0.refl _ | apply Drawn0.step)⟩

-- NOT PRINTED: function 193 (slices_IndexFunc_byte_byte)

-- NOT PRINTED: function 166 (slices_ContainsFunc_byte_byte)

-- NOT PRINTED: function 167 (impl_areAll_byte_1)

-- NOT PRINTED: function 124 (impl_areAll_byte)

-- NOT PRINTED: function 79 (impl_areBytes)

/-! ### impl_isLetter: function 125 -/
def impl_isLetter.f (a0 : Int) : Option (Bool) := if (Go.bits .or .u8 a0 32) ≥ 97 then (some (decide ((Go.bits .or .u8 a0 32) ≤ 122))) else (some false)
set_option maxHeartbeats 8000000 in
set_option maxRecDepth 100000 in
theorem impl_isLetter.calls (a0 : Int) (r : Bool) (w : World) (h : impl_isLetter.f a0 = some r) :
  Calls Tryz.prog 125 #[.int .u8 a0] w fun e w' => e = .returned (.bool r) ∧ Drawn0 w w' := by
 unfold impl_isLetter.f at h; have H := h
 clear h
 by_cases c2 : (Go.bits .or .u8 a0 32) ≥ 97
 ·rw [if_pos c2] at H
  have c2b0 : decide (97 ≤ (Go.bits .or .u8 a0 32)) = true := decide_eq_true c2
  clear c2
  obtain rfl := Option.some.inj H
  go_enter Tryz.func125, Tryz.ntmps125
  go_wp2
  go_ret
  exact ⟨by first | rfl | (simp; done) | (simp [*]; done) | (simp only [Ending.returned.injEq, Value.tuple.injEq, i64_w]; rfl) | (simp [i64_w]; rfl), by repeat (first | exact Drawn0.refl _ | apply Drawn0.step)⟩
 ·rw [if_neg c2] at H
  have c2b0 : decide (97 ≤ (Go.bits .or .u8 a0 32)) = false := decide_eq_false c2
  clear c2
  obtain rfl := Option.some.inj H
  go_enter Tryz.func125, Tryz.ntmps125
  go_wp2
  go_ret
  exact ⟨by first | rfl | (simp; done) | (simp [*]; done) | (simp only [Ending.returned.injEq, Value.tuple.injEq, i64_w]; rfl) | (simp [i64_w]; rfl), by repeat (first | exact Drawn0.refl _ | apply Drawn0.step)⟩

end Go.Proofs.YtlmnmakkojgfnaaGreatDoor.PFnExactKeptFor
