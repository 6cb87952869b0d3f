-- written by a program of this session (wip/tool)
import Derived.Test.YtlmnmakkojgfnaaGreatDoorPFnExactKeptForx0
import Derived.Test.YtlmnmakkojgfnaaGreatDoorPFnExactKeptForx3
import Derived.Test.YtlmnmakkojgfnaaGreatDoorPFnExactKeptForx7
import Derived.Test.YtlmnmakkojgfnaaGreatDoorPFnExactKeptForx10
import Derived.Test.YtlmnmakkojgfnaaGreatDoorVOwn0
import Derived.Test.YtlmnmakkojgfnaaGreatDoorVOwnOpen
import Derived.WalkKit
import Derived.BigCall
import Derived.Test.YtlmnmakkojgfnaaGreatDoorOwnTr
import Derived.Test.YtlmnmakkojgfnaaGreatDoorVOwnShort
import Derived.Test.YtlmnmakkojgfnaaGreatDoorOwnSq
import Derived.Test.YtlmnmakkojgfnaaGreatDoorOwnIt
namespace Go.Proofs.YtlmnmakkojgfnaaGreatDoor.PFnExactKeptFor
open Go.RowKit Go.Proofs.YtlmnmakkojgfnaaGreatDoorW.PrintWords Go.Proofs.YtlmnmakkojgfnaaGreatDoorW.PrintLast Go.Proofs.YtlmnmakkojgfnaaGreatDoorW.PrintMore Go.Shelf Go.Proofs.YtlmnmakkojgfnaaGreatDoorOwn
attribute [local go_sem] max2_int min2_int max_two min_two max_three min_three max_four min_four   -- for this text's walks alone
set_option linter.unusedVariables false
set_option linter.unusedSimpArgs false

/-! ### spec_GoodResponse: function 138 -/
def spec_GoodResponse.f (k : Nat) (a0_0 : Int) (a0_1 : ByteArray) (l0_2 : List (S105)) (a0_3 : ByteArray) : Option (Bool) := (spec_l1In.f a0_0 100 599).bind fun t323 => (if t323 = true then ((spec_l4Reason.f k a0_1).bind fun t324 => (if t324 = true then ((spec_l3Fields.f k l0_2).bind fun t325 => (if t325 = true then ((spec_l4Framed.f k l0_2 a0_3).bind fun t326 => (if t326 = true then ((spec_l4Status.f k a0_0 a0_1 l0_2 a0_3).bind fun t327 => ((spec_l4Head.f k t327 l0_2).bind fun t328 => (some (decide ((t328.size : Int) ≤ 2000))))) else (some false))) else (some false))) else (some false))) else (some false))
theorem spec_GoodResponse.mono : ∀ a0 a1 a2 a3 k, LeO (spec_GoodResponse.f k a0 a1 a2 a3) (spec_GoodResponse.f (k + 1) a0 a1 a2 a3) := by
 intro a0 a1 a2 a3 k
 unfold spec_GoodResponse.f
 repeat' with_reducible first | exact spec_l3Fields.mono _ _ | exact spec_l4Framed.mono _ _ _ | exact spec_l4Head.mono _ _ _ | exact spec_l4Reason.mono _ _ | exact spec_l4Status.mono _ _ _ _ _ | exact LeO.refl _ | exact LeO.none _ | refine LeO.ite ?_ ?_ | refine LeO.bind ?_ (fun _ => ?_)
def spec_GoodResponse.T1 : Bool × List (List Nat × List Nat) := (true, [([], []), ([0], [0]), ([1], [1]), ([2, 2], [2]), ([3], [3]), ([4, 3], [3, 4]), ([5, 3, 3], [3, 5]), ([3, 6], [3, 6]), ([7, 6], [7]), ([8], [8]), ([9, 8], [8, 9]), ([10, 8, 8], [8, 10]), ([8, 11], [8, 11]), ([12, 11], [12]), ([13], [13]), ([14, 13], [13, 14]), ([13], [13]), ([16, 13], [13, 16]), ([15, 17, 13, 13], [13, 15, 17]), ([13, 18], [13, 18]), ([19, 18], [19]), ([20], [20]), ([21, 20, 20], [20, 21]), ([20], [20]), ([23, 20], [20, 23]), ([22, 24, 22, 20], [20, 22, 24]), ([25, 20], [20, 25]), ([26, 20], [20, 26]), ([20, 27], [20, 27]), ([28, 25, 0, 1, 2, 3, 4, 5, 6, 7, 8, 9, 10, 11, 12, 13, 14, 15, 16, 17, 18, 19, 20, 21, 22, 23, 24, 25, 26, 27, 28], [28])])
def spec_GoodResponse.B1 : List Nat := [0, 1, 3, 7, 15, 31, 63, 127, 255, 511, 1023, 2047, 4095, 8191, 16383, 32767, 16383, 81919, 262143, 524287, 1048575, 2097151, 4194303, 2097151, 10485759, 33554431, 67108863, 134217727, 268435455, 536870911]
theorem spec_GoodResponse.tab1 : rtab .any (opsOf Tryz.f138 1) = spec_GoodResponse.T1 := by kernel_rfl
theorem spec_GoodResponse.bits1 : waitsOk spec_GoodResponse.T1.2 spec_GoodResponse.B1 = true := by kernel_rfl
set_option maxHeartbeats 8000000 in
set_option maxRecDepth 100000 in
theorem spec_GoodResponse.calls (k : Nat) (a0_0 : Int) (a0_1 : ByteArray) (A0_2 : Option Addr) (c0_2 : Nat) (l0_2 : List (S105)) (a0_3 : ByteArray) (r : Bool) (w : World) (hr0_2 : Kd.C k105 w A0_2 l0_2.length l0_2) (hc0_2 : l0_2.length ≤ c0_2) (h : spec_GoodResponse.f k a0_0 a0_1 l0_2 a0_3 = some r) :
  Calls Tryz.prog 138 #[.agg #[.int .i64 a0_0, .string a0_1, .slice A0_2 l0_2.length c0_2, .string a0_3]] w fun e w' => e = .returned (.bool r) ∧ Below w.heap.size w w' := by
 have hu57 := Tryz.underlying57
 have HR0_2 := ak hr0_2
 have HC0_2 := ak hc0_2
 clear hr0_2 hc0_2
 have HB := ak (Below.refl w.heap.size w)
 unfold spec_GoodResponse.f at h; have H := h
 clear h
 replace H := bs H
 obtain ⟨t323, A2, H⟩ := H
 try dsimp only at H
 by_cases c3 : t323 = true
 ·subst c3
  rw [if_pos rfl] at H
  replace H := bs H
  obtain ⟨t324, A4, H⟩ := H
  try dsimp only at H
  by_cases c5 : t324 = true
  ·subst c5
   rw [if_pos rfl] at H
   replace H := bs H
   obtain ⟨t325, A6, H⟩ := H
   try dsimp only at H
   by_cases c7 : t325 = true
   ·subst c7
    rw [if_pos rfl] at H
    replace H := bs H
    obtain ⟨t326, A8, H⟩ := H
    try dsimp only at H
    by_cases c9 : t326 = true
    ·subst c9
     rw [if_pos rfl] at H
     replace H := bs H
     obtain ⟨t327, A10, H⟩ := H
     try dsimp only at H
     replace H := bs H
     obtain ⟨t328, A11, H⟩ := H
     try dsimp only at H
     obtain rfl := Option.some.inj H
     go_enter Tryz.func138, Tryz.ntmps138
     try go_wp2_with (first | ((with_reducible refine gd 1 ?_); (try (refine gate_guard (by rfl) ?_; dsimp only)); refine bE 1 #[.int .i64 a0_0, .string a0_1, .slice A0_2 l0_2.length c0_2, .string a0_3] 57 ?_; intro gb322 hg w12 hbox hb; have BK322 := ak hbox; have GW322 := gs hg (bl HB.out); have GE322 := gs hg (bl HB.out); replace HB := ak (below_step (bl HB.out) hb); clear hb hbox hg))
     replace BK322 := ak (blk_drew BK322.out)
     replace HB := ak (below_drew1 HB.out)
     refine start_ (n := 30) (S := fun w' => w'.cell? ⟨gb322, 0, none⟩ = some (.int .i64 a0_0) ∧ w'.cell? ⟨gb322, 1, none⟩ = some (.string a0_1) ∧ w'.cell? ⟨gb322, 2, none⟩ = some (.slice A0_2 l0_2.length c0_2) ∧ w'.cell? ⟨gb322, 3, none⟩ = some (.string a0_3)) (ds := []) #[false, false, false, false, false, false, false, false, false, false, false, false, false, false, false, false, false, false, false, false, false, false, false, false, false, false, false, false, false, false] (by kernel_rfl) rfl rfl ⟨bc0 BK322.out, bc1 BK322.out, bc2 BK322.out, bc3 BK322.out⟩ (fun hHeld => ?_); refine with_tabW spec_GoodResponse.tab1 spec_GoodResponse.bits1 (fun HT_ HW_ => ?_)
     generalize w12.drew = w13 at BK322 HB hHeld ⊢
     refine pu 0 (some 3) HT_ ?_
     refine tk 1 (some 4) HT_ HW_ hHeld ?_
     refine on 2 (some 5) HT_ (fun K hK => ?_)
     refine gO Tryz.func37 #[.int .i64 a0_0, .int .i64 100, .int .i64 599] ?_
     with_reducible refine (spec_l1In.calls a0_0 100 599 true _ A2.out).mono ?_
     rintro e w' ⟨rfl, ⟨nd, rfl⟩⟩
     refine ⟨_, rfl, ?_⟩
     refine hK.out _ _ ⟨bc0 BK322.out, bc1 BK322.out, bc2 BK322.out, bc3 BK322.out⟩ (fun hHeld => ?_)
     clear hK K
     refine nr (some 5) ?_
     refine pu 3 (some 6) HT_ ?_
     refine pu 4 (some 7) HT_ ?_
     refine tk 5 (some 8) HT_ HW_ hHeld ?_
     refine on 6 (some 9) HT_ (fun K hK => ?_)
     refine gO Tryz.func172 #[.string a0_1] ?_
     with_reducible refine (spec_l4Reason.calls k a0_1 true _ A4.out).mono ?_
     rintro e w' ⟨rfl, ⟨nd, rfl⟩⟩
     refine ⟨_, rfl, ?_⟩
     refine hK.out _ _ ⟨bc0 BK322.out, bc1 BK322.out, bc2 BK322.out, bc3 BK322.out⟩ (fun hHeld => ?_)
     clear hK K
     refine nr (some 9) ?_
     refine pu 7 (some 10) HT_ ?_
     refine pu 8 (some 11) HT_ ?_
     refine pu 9 (some 12) HT_ ?_
     refine tk 10 (some 13) HT_ HW_ hHeld ?_
     refine on 11 (some 14) HT_ (fun K hK => ?_)
     refine gO Tryz.func67 #[.slice A0_2 l0_2.length c0_2] ?_
     with_reducible refine (spec_l3Fields.calls k _ _ l0_2 true _ ?side1 ?side2 A6.out).mono ?_
     (case side1 => exact kc (Kd.C_below HR0_2.out (bl1 HB.out GE322.out)))
     (case side2 => exact HC0_2.out)
     rintro e w14 ⟨rfl, hb⟩
     refine ⟨_, rfl, ?_⟩
     replace BK322 := ak (blk_below (bk BK322.out) hb)
     replace HB := ak (below_step (bl1 HB.out GE322.out) hb)
     clear hb
     refine hK.out _ _ ⟨bc0 BK322.out, bc1 BK322.out, bc2 BK322.out, bc3 BK322.out⟩ (fun hHeld => ?_)
     clear hK K
     refine nr (some 14) ?_
     refine pu 12 (some 15) HT_ ?_
     refine pu 13 (some 16) HT_ ?_
     refine pu 14 (some 17) HT_ ?_
     refine pu 16 (some 19) HT_ ?_
     refine tk 15 (some 18) HT_ HW_ hHeld ?_
     refine tk 17 (some 20) HT_ HW_ hHeld ?_
     refine on 18 (some 21) HT_ (fun K hK => ?_)
     refine gO Tryz.func68 #[.slice A0_2 l0_2.length c0_2, .string a0_3] ?_
     with_reducible refine (spec_l4Framed.calls k _ _ l0_2 a0_3 true _ ?side1 ?side2 A8.out).mono ?_
     (case side1 => exact kc (Kd.C_below HR0_2.out HB.out))
     (case side2 => exact HC0_2.out)
     rintro e w15 ⟨rfl, hb⟩
     refine ⟨_, rfl, ?_⟩
     replace BK322 := ak (blk_below (bk BK322.out) hb)
     replace HB := ak (below_step (bl1 HB.out GE322.out) hb)
     clear hb
     refine hK.out _ _ ⟨bc0 BK322.out, bc1 BK322.out, bc2 BK322.out, bc3 BK322.out⟩ (fun hHeld => ?_)
     clear hK K
     refine nr (some 21) ?_
     refine pu 19 (some 22) HT_ ?_
     refine pu 20 (some 23) HT_ ?_
     refine pu 23 (some 26) HT_ ?_
     refine tk 21 (some 24) HT_ HW_ hHeld ?_
     refine tk 24 (some 27) HT_ HW_ hHeld ?_
     refine on 22 (some 25) HT_ (fun K hK => ?_)
     refine gO Tryz.func173 #[.agg #[.int .i64 a0_0, .string a0_1, .slice A0_2 l0_2.length c0_2, .string a0_3]] ?_
     with_reducible refine (spec_l4Status.calls k a0_0 a0_1 _ _ l0_2 a0_3 t327 _ ?side1 ?side2 A10.out).mono ?_
     (case side1 => exact kc (Kd.C_below HR0_2.out HB.out))
     (case side2 => exact HC0_2.out)
     rintro e w16 ⟨rfl, hb⟩
     refine ⟨_, rfl, ?_⟩
     replace BK322 := ak (blk_below (bk BK322.out) hb)
     replace HB := ak (below_step (bl1 HB.out GE322.out) hb)
     clear hb
     refine hK.out _ _ ⟨bc0 BK322.out, bc1 BK322.out, bc2 BK322.out, bc3 BK322.out⟩ (fun hHeld => ?_)
     clear hK K
     refine nr (some 25) ?_
     refine on 25 (some 28) HT_ (fun K hK => ?_)
     refine gO Tryz.func69 #[.string t327, .slice A0_2 l0_2.length c0_2] ?_
     with_reducible refine (spec_l4Head.calls k t327 _ _ l0_2 t328 _ ?side1 ?side2 A11.out).mono ?_
     (case side1 => exact kc (Kd.C_below HR0_2.out HB.out))
     (case side2 => exact HC0_2.out)
     rintro e w17 ⟨rfl, hb⟩
     refine ⟨_, rfl, ?_⟩
     replace BK322 := ak (blk_below (bk BK322.out) hb)
     replace HB := ak (below_step (bl1 HB.out GE322.out) hb)
     clear hb
     refine hK.out _ _ ⟨bc0 BK322.out, bc1 BK322.out, bc2 BK322.out, bc3 BK322.out⟩ (fun hHeld => ?_)
     clear hK K
     refine nr (some 28) ?_
     refine pu 26 (some 29) HT_ ?_
     refine pu 27 (some 30) HT_ ?_
     refine pu 28 (some 31) HT_ ?_
     refine pu 29 (some 2) HT_ ?_
     refine done_ (done_of HT_.out (by kernel_rfl)) ?_
     try go_wp2
     go_ret
     exact rz (bl1 HB.out GE322.out)
    ·replace c9 := Bool.eq_false_iff.mpr c9
     subst c9
     rw [if_neg ff] at H
     obtain rfl := Option.some.inj H
     go_enter Tryz.func138, Tryz.ntmps138
     try go_wp2_with (first | ((with_reducible refine gd 1 ?_); (try (refine gate_guard (by rfl) ?_; dsimp only)); refine bE 1 #[.int .i64 a0_0, .string a0_1, .slice A0_2 l0_2.length c0_2, .string a0_3] 57 ?_; intro gb322 hg w18 hbox hb; have BK322 := ak hbox; have GW322 := gs hg (bl HB.out); have GE322 := gs hg (bl HB.out); replace HB := ak (below_step (bl HB.out) hb); clear hb hbox hg))
     replace BK322 := ak (blk_drew BK322.out)
     replace HB := ak (below_drew1 HB.out)
     refine start_ (n := 30) (S := fun w' => w'.cell? ⟨gb322, 0, none⟩ = some (.int .i64 a0_0) ∧ w'.cell? ⟨gb322, 1, none⟩ = some (.string a0_1) ∧ w'.cell? ⟨gb322, 2, none⟩ = some (.slice A0_2 l0_2.length c0_2) ∧ w'.cell? ⟨gb322, 3, none⟩ = some (.string a0_3)) (ds := []) #[false, false, false, false, false, false, false, false, false, false, false, false, false, false, false, false, false, false, false, false, false, false, false, false, false, false, false, false, false, false] (by kernel_rfl) rfl rfl ⟨bc0 BK322.out, bc1 BK322.out, bc2 BK322.out, bc3 BK322.out⟩ (fun hHeld => ?_); refine with_tabW spec_GoodResponse.tab1 spec_GoodResponse.bits1 (fun HT_ HW_ => ?_)
     generalize w18.drew = w19 at BK322 HB hHeld ⊢
     refine pu 0 (some 3) HT_ ?_
     refine tk 1 (some 4) HT_ HW_ hHeld ?_
     refine on 2 (some 5) HT_ (fun K hK => ?_)
     refine gO Tryz.func37 #[.int .i64 a0_0, .int .i64 100, .int .i64 599] ?_
     with_reducible refine (spec_l1In.calls a0_0 100 599 true _ A2.out).mono ?_
     rintro e w' ⟨rfl, ⟨nd, rfl⟩⟩
     refine ⟨_, rfl, ?_⟩
     refine hK.out _ _ ⟨bc0 BK322.out, bc1 BK322.out, bc2 BK322.out, bc3 BK322.out⟩ (fun hHeld => ?_)
     clear hK K
     refine nr (some 5) ?_
     refine pu 3 (some 6) HT_ ?_
     refine pu 4 (some 7) HT_ ?_
     refine tk 5 (some 8) HT_ HW_ hHeld ?_
     refine on 6 (some 9) HT_ (fun K hK => ?_)
     refine gO Tryz.func172 #[.string a0_1] ?_
     with_reducible refine (spec_l4Reason.calls k a0_1 true _ A4.out).mono ?_
     rintro e w' ⟨rfl, ⟨nd, rfl⟩⟩
     refine ⟨_, rfl, ?_⟩
     refine hK.out _ _ ⟨bc0 BK322.out, bc1 BK322.out, bc2 BK322.out, bc3 BK322.out⟩ (fun hHeld => ?_)
     clear hK K
     refine nr (some 9) ?_
     refine pu 7 (some 10) HT_ ?_
     refine pu 8 (some 11) HT_ ?_
     refine pu 9 (some 12) HT_ ?_
     refine tk 10 (some 13) HT_ HW_ hHeld ?_
     refine on 11 (some 14) HT_ (fun K hK => ?_)
     refine gO Tryz.func67 #[.slice A0_2 l0_2.length c0_2] ?_
     with_reducible refine (spec_l3Fields.calls k _ _ l0_2 true _ ?side1 ?side2 A6.out).mono ?_
     (case side1 => exact kc (Kd.C_below HR0_2.out (bl1 HB.out GE322.out)))
     (case side2 => exact HC0_2.out)
     rintro e w20 ⟨rfl, hb⟩
     refine ⟨_, rfl, ?_⟩
     replace BK322 := ak (blk_below (bk BK322.out) hb)
     replace HB := ak (below_step (bl1 HB.out GE322.out) hb)
     clear hb
     refine hK.out _ _ ⟨bc0 BK322.out, bc1 BK322.out, bc2 BK322.out, bc3 BK322.out⟩ (fun hHeld => ?_)
     clear hK K
     refine nr (some 14) ?_
     refine pu 12 (some 15) HT_ ?_
     refine pu 13 (some 16) HT_ ?_
     refine pu 14 (some 17) HT_ ?_
     refine pu 16 (some 19) HT_ ?_
     refine tk 15 (some 18) HT_ HW_ hHeld ?_
     refine tk 17 (some 20) HT_ HW_ hHeld ?_
     refine on 18 (some 21) HT_ (fun K hK => ?_)
     refine gO Tryz.func68 #[.slice A0_2 l0_2.length c0_2, .string a0_3] ?_
     with_reducible refine (spec_l4Framed.calls k _ _ l0_2 a0_3 false _ ?side1 ?side2 A8.out).mono ?_
     (case side1 => exact kc (Kd.C_below HR0_2.out HB.out))
     (case side2 => exact HC0_2.out)
     rintro e w21 ⟨rfl, hb⟩
     refine ⟨_, rfl, ?_⟩
     replace BK322 := ak (blk_below (bk BK322.out) hb)
     replace HB := ak (below_step (bl1 HB.out GE322.out) hb)
     clear hb
     refine hK.out _ _ ⟨bc0 BK322.out, bc1 BK322.out, bc2 BK322.out, bc3 BK322.out⟩ (fun hHeld => ?_)
     clear hK K
     refine nr (some 21) ?_
     refine pu 19 (some 22) HT_ ?_
     refine pu 20 (some 23) HT_ ?_
     refine pn 21 (some 24) HT_ ?_
     refine pn 22 (some 25) HT_ ?_
     refine pn 23 (some 26) HT_ ?_
     refine pn 24 (some 27) HT_ ?_
     refine pn 25 (some 28) HT_ ?_
     refine pn 26 (some 29) HT_ ?_
     refine pn 27 (some 30) HT_ ?_
     refine pu 28 (some 31) HT_ ?_
     refine pu 29 (some 2) HT_ ?_
     refine done_ (done_of HT_.out (by kernel_rfl)) ?_
     try go_wp2
     go_ret
     exact rz (bl1 HB.out GE322.out)
   ·replace c7 := Bool.eq_false_iff.mpr c7
    subst c7
    rw [if_neg ff] at H
    obtain rfl := Option.some.inj H
    go_enter Tryz.func138, Tryz.ntmps138
    try go_wp2_with (first | ((with_reducible refine gd 1 ?_); (try (refine gate_guard (by rfl) ?_; dsimp only)); refine bE 1 #[.int .i64 a0_0, .string a0_1, .slice A0_2 l0_2.length c0_2, .string a0_3] 57 ?_; intro gb322 hg w22 hbox hb; have BK322 := ak hbox; have GW322 := gs hg (bl HB.out); have GE322 := gs hg (bl HB.out); replace HB := ak (below_step (bl HB.out) hb); clear hb hbox hg))
    replace BK322 := ak (blk_drew BK322.out)
    replace HB := ak (below_drew1 HB.out)
    refine start_ (n := 30) (S := fun w' => w'.cell? ⟨gb322, 0, none⟩ = some (.int .i64 a0_0) ∧ w'.cell? ⟨gb322, 1, none⟩ = some (.string a0_1) ∧ w'.cell? ⟨gb322, 2, none⟩ = some (.slice A0_2 l0_2.length c0_2) ∧ w'.cell? ⟨gb322, 3, none⟩ = some (.string a0_3)) (ds := []) #[false, false, false, false, false, false, false, false, false, false, false, false, false, false, false, false, false, false, false, false, false, false, false, false, false, false, false, false, false, false] (by kernel_rfl) rfl rfl ⟨bc0 BK322.out, bc1 BK322.out, bc2 BK322.out, bc3 BK322.out⟩ (fun hHeld => ?_); refine with_tabW spec_GoodResponse.tab1 spec_GoodResponse.bits1 (fun HT_ HW_ => ?_)
    generalize w22.drew = w23 at BK322 HB hHeld ⊢
    refine pu 0 (some 3) HT_ ?_
    refine tk 1 (some 4) HT_ HW_ hHeld ?_
    refine on 2 (some 5) HT_ (fun K hK => ?_)
    refine gO Tryz.func37 #[.int .i64 a0_0, .int .i64 100, .int .i64 599] ?_
    with_reducible refine (spec_l1In.calls a0_0 100 599 true _ A2.out).mono ?_
    rintro e w' ⟨rfl, ⟨nd, rfl⟩⟩
    refine ⟨_, rfl, ?_⟩
    refine hK.out _ _ ⟨bc0 BK322.out, bc1 BK322.out, bc2 BK322.out, bc3 BK322.out⟩ (fun hHeld => ?_)
    clear hK K
    refine nr (some 5) ?_
    refine pu 3 (some 6) HT_ ?_
    refine pu 4 (some 7) HT_ ?_
    refine tk 5 (some 8) HT_ HW_ hHeld ?_
    refine on 6 (some 9) HT_ (fun K hK => ?_)
    refine gO Tryz.func172 #[.string a0_1] ?_
    with_reducible refine (spec_l4Reason.calls k a0_1 true _ A4.out).mono ?_
    rintro e w' ⟨rfl, ⟨nd, rfl⟩⟩
    refine ⟨_, rfl, ?_⟩
    refine hK.out _ _ ⟨bc0 BK322.out, bc1 BK322.out, bc2 BK322.out, bc3 BK322.out⟩ (fun hHeld => ?_)
    clear hK K
    refine nr (some 9) ?_
    refine pu 7 (some 10) HT_ ?_
    refine pu 8 (some 11) HT_ ?_
    refine pu 9 (some 12) HT_ ?_
    refine tk 10 (some 13) HT_ HW_ hHeld ?_
    refine on 11 (some 14) HT_ (fun K hK => ?_)
    refine gO Tryz.func67 #[.slice A0_2 l0_2.length c0_2] ?_
    with_reducible refine (spec_l3Fields.calls k _ _ l0_2 false _ ?side1 ?side2 A6.out).mono ?_
    (case side1 => exact kc (Kd.C_below HR0_2.out (bl1 HB.out GE322.out)))
    (case side2 => exact HC0_2.out)
    rintro e w24 ⟨rfl, hb⟩
    refine ⟨_, rfl, ?_⟩
    replace BK322 := ak (blk_below (bk BK322.out) hb)
    replace HB := ak (below_step (bl1 HB.out GE322.out) hb)
    clear hb
    refine hK.out _ _ ⟨bc0 BK322.out, bc1 BK322.out, bc2 BK322.out, bc3 BK322.out⟩ (fun hHeld => ?_)
    clear hK K
    refine nr (some 14) ?_
    refine pu 12 (some 15) HT_ ?_
    refine pu 13 (some 16) HT_ ?_
    refine pn 14 (some 17) HT_ ?_
    refine pn 15 (some 18) HT_ ?_
    refine pn 16 (some 19) HT_ ?_
    refine pn 17 (some 20) HT_ ?_
    refine pn 18 (some 21) HT_ ?_
    refine pu 19 (some 22) HT_ ?_
    refine pu 20 (some 23) HT_ ?_
    refine pn 21 (some 24) HT_ ?_
    refine pn 22 (some 25) HT_ ?_
    refine pn 23 (some 26) HT_ ?_
    refine pn 24 (some 27) HT_ ?_
    refine pn 25 (some 28) HT_ ?_
    refine pn 26 (some 29) HT_ ?_
    refine pn 27 (some 30) HT_ ?_
    refine pu 28 (some 31) HT_ ?_
    refine pu 29 (some 2) HT_ ?_
    refine done_ (done_of HT_.out (by kernel_rfl)) ?_
    try go_wp2
    go_ret
    exact rz (bl1 HB.out GE322.out)
  ·replace c5 := Bool.eq_false_iff.mpr c5
   subst c5
   rw [if_neg ff] at H
   obtain rfl := Option.some.inj H
   go_enter Tryz.func138, Tryz.ntmps138
   try go_wp2_with (first | ((with_reducible refine gd 1 ?_); (try (refine gate_guard (by rfl) ?_; dsimp only)); refine bE 1 #[.int .i64 a0_0, .string a0_1, .slice A0_2 l0_2.length c0_2, .string a0_3] 57 ?_; intro gb322 hg w25 hbox hb; have BK322 := ak hbox; have GW322 := gs hg (bl HB.out); have GE322 := gs hg (bl HB.out); replace HB := ak (below_step (bl HB.out) hb); clear hb hbox hg))
   replace BK322 := ak (blk_drew BK322.out)
   replace HB := ak (below_drew1 HB.out)
   refine start_ (n := 30) (S := fun w' => w'.cell? ⟨gb322, 0, none⟩ = some (.int .i64 a0_0) ∧ w'.cell? ⟨gb322, 1, none⟩ = some (.string a0_1) ∧ w'.cell? ⟨gb322, 2, none⟩ = some (.slice A0_2 l0_2.length c0_2) ∧ w'.cell? ⟨gb322, 3, none⟩ = some (.string a0_3)) (ds := []) #[false, false, false, false, false, false, false, false, false, false, false, false, false, false, false, false, false, false, false, false, false, false, false, false, false, false, false, false, false, false] (by kernel_rfl) rfl rfl ⟨bc0 BK322.out, bc1 BK322.out, bc2 BK322.out, bc3 BK322.out⟩ (fun hHeld => ?_); refine with_tabW spec_GoodResponse.tab1 spec_GoodResponse.bits1 (fun HT_ HW_ => ?_)
   generalize w25.drew = w26 at BK322 HB hHeld ⊢
   refine pu 0 (some 3) HT_ ?_
   refine tk 1 (some 4) HT_ HW_ hHeld ?_
   refine on 2 (some 5) HT_ (fun K hK => ?_)
   refine gO Tryz.func37 #[.int .i64 a0_0, .int .i64 100, .int .i64 599] ?_
   with_reducible refine (spec_l1In.calls a0_0 100 599 true _ A2.out).mono ?_
   rintro e w' ⟨rfl, ⟨nd, rfl⟩⟩
   refine ⟨_, rfl, ?_⟩
   refine hK.out _ _ ⟨bc0 BK322.out, bc1 BK322.out, bc2 BK322.out, bc3 BK322.out⟩ (fun hHeld => ?_)
   clear hK K
   refine nr (some 5) ?_
   refine pu 3 (some 6) HT_ ?_
   refine pu 4 (some 7) HT_ ?_
   refine tk 5 (some 8) HT_ HW_ hHeld ?_
   refine on 6 (some 9) HT_ (fun K hK => ?_)
   refine gO Tryz.func172 #[.string a0_1] ?_
   with_reducible refine (spec_l4Reason.calls k a0_1 false _ A4.out).mono ?_
   rintro e w' ⟨rfl, ⟨nd, rfl⟩⟩
   refine ⟨_, rfl, ?_⟩
   refine hK.out _ _ ⟨bc0 BK322.out, bc1 BK322.out, bc2 BK322.out, bc3 BK322.out⟩ (fun hHeld => ?_)
   clear hK K
   refine nr (some 9) ?_
   refine pu 7 (some 10) HT_ ?_
   refine pu 8 (some 11) HT_ ?_
   refine pn 9 (some 12) HT_ ?_
   refine pn 10 (some 13) HT_ ?_
   refine pn 11 (some 14) HT_ ?_
   refine pu 12 (some 15) HT_ ?_
   refine pu 13 (some 16) HT_ ?_
   refine pn 14 (some 17) HT_ ?_
   refine pn 15 (some 18) HT_ ?_
   refine pn 16 (some 19) HT_ ?_
   refine pn 17 (some 20) HT_ ?_
   refine pn 18 (some 21) HT_ ?_
   refine pu 19 (some 22) HT_ ?_
   refine pu 20 (some 23) HT_ ?_
   refine pn 21 (some 24) HT_ ?_
   refine pn 22 (some 25) HT_ ?_
   refine pn 23 (some 26) HT_ ?_
   refine pn 24 (some 27) HT_ ?_
   refine pn 25 (some 28) HT_ ?_
   refine pn 26 (some 29) HT_ ?_
   refine pn 27 (some 30) HT_ ?_
   refine pu 28 (some 31) HT_ ?_
   refine pu 29 (some 2) HT_ ?_
   refine done_ (done_of HT_.out (by kernel_rfl)) ?_
   try go_wp2
   go_ret
   exact rz (bl1 HB.out GE322.out)
 ·replace c3 := Bool.eq_false_iff.mpr c3
  subst c3
  rw [if_neg ff] at H
  obtain rfl := Option.some.inj H
  go_enter Tryz.func138, Tryz.ntmps138
  try go_wp2_with (first | ((with_reducible refine gd 1 ?_); (try (refine gate_guard (by rfl) ?_; dsimp only)); refine bE 1 #[.int .i64 a0_0, .string a0_1, .slice A0_2 l0_2.length c0_2, .string a0_3] 57 ?_; intro gb322 hg w27 hbox hb; have BK322 := ak hbox; have GW322 := gs hg (bl HB.out); have GE322 := gs hg (bl HB.out); replace HB := ak (below_step (bl HB.out) hb); clear hb hbox hg))
  replace BK322 := ak (blk_drew BK322.out)
  replace HB := ak (below_drew1 HB.out)
  refine start_ (n := 30) (S := fun w' => w'.cell? ⟨gb322, 0, none⟩ = some (.int .i64 a0_0) ∧ w'.cell? ⟨gb322, 1, none⟩ = some (.string a0_1) ∧ w'.cell? ⟨gb322, 2, none⟩ = some (.slice A0_2 l0_2.length c0_2) ∧ w'.cell? ⟨gb322, 3, none⟩ = some (.string a0_3)) (ds := []) #[false, false, false, false, false, false, false, false, false, false, false, false, false, false, false, false, false, false, false, false, false, false, false, false, false, false, false, false, false, false] (by kernel_rfl) rfl rfl ⟨bc0 BK322.out, bc1 BK322.out, bc2 BK322.out, bc3 BK322.out⟩ (fun hHeld => ?_); refine with_tabW spec_GoodResponse.tab1 spec_GoodResponse.bits1 (fun HT_ HW_ => ?_)
  generalize w27.drew = w28 at BK322 HB hHeld ⊢
  refine pu 0 (some 3) HT_ ?_
  refine tk 1 (some 4) HT_ HW_ hHeld ?_
  refine on 2 (some 5) HT_ (fun K hK => ?_)
  refine gO Tryz.func37 #[.int .i64 a0_0, .int .i64 100, .int .i64 599] ?_
  with_reducible refine (spec_l1In.calls a0_0 100 599 false _ A2.out).mono ?_
  rintro e w' ⟨rfl, ⟨nd, rfl⟩⟩
  refine ⟨_, rfl, ?_⟩
  refine hK.out _ _ ⟨bc0 BK322.out, bc1 BK322.out, bc2 BK322.out, bc3 BK322.out⟩ (fun hHeld => ?_)
  clear hK K
  refine nr (some 5) ?_
  refine pu 3 (some 6) HT_ ?_
  refine pn 4 (some 7) HT_ ?_
  refine pn 5 (some 8) HT_ ?_
  refine pn 6 (some 9) HT_ ?_
  refine pu 7 (some 10) HT_ ?_
  refine pu 8 (some 11) HT_ ?_
  refine pn 9 (some 12) HT_ ?_
  refine pn 10 (some 13) HT_ ?_
  refine pn 11 (some 14) HT_ ?_
  refine pu 12 (some 15) HT_ ?_
  refine pu 13 (some 16) HT_ ?_
  refine pn 14 (some 17) HT_ ?_
  refine pn 15 (some 18) HT_ ?_
  refine pn 16 (some 19) HT_ ?_
  refine pn 17 (some 20) HT_ ?_
  refine pn 18 (some 21) HT_ ?_
  refine pu 19 (some 22) HT_ ?_
  refine pu 20 (some 23) HT_ ?_
  refine pn 21 (some 24) HT_ ?_
  refine pn 22 (some 25) HT_ ?_
  refine pn 23 (some 26) HT_ ?_
  refine pn 24 (some 27) HT_ ?_
  refine pn 25 (some 28) HT_ ?_
  refine pn 26 (some 29) HT_ ?_
  refine pn 27 (some 30) HT_ ?_
  refine pu 28 (some 31) HT_ ?_
  refine pu 29 (some 2) HT_ ?_
  refine done_ (done_of HT_.out (by kernel_rfl)) ?_
  try go_wp2
  go_ret
  exact rz (bl1 HB.out GE322.out)

end Go.Proofs.YtlmnmakkojgfnaaGreatDoor.PFnExactKeptFor
