-- written by a program of this session (wip/tool)
import Derived.Test.YtlmnmakkojgfnaaGreatDoorPFnExactKeptForx0
import Derived.Test.YtlmnmakkojgfnaaGreatDoorPFnExactKeptForx12
import Derived.Test.YtlmnmakkojgfnaaGreatDoorPFnExactKeptForx14
import Derived.Test.YtlmnmakkojgfnaaGreatDoorPFnExactKeptForx17
import Derived.Test.YtlmnmakkojgfnaaGreatDoorVOwn0
import Derived.Test.YtlmnmakkojgfnaaGreatDoorVOwnOpen
import Derived.WalkKit
import Derived.BigCall
import Derived.Test.YtlmnmakkojgfnaaGreatDoorOwnTr
import Derived.Test.YtlmnmakkojgfnaaGreatDoorVOwnShort
import Derived.Test.YtlmnmakkojgfnaaGreatDoorOwnSq
import Derived.Test.YtlmnmakkojgfnaaGreatDoorOwnIt
namespace Go.Proofs.YtlmnmakkojgfnaaGreatDoor.PFnExactKeptFor
open Go.RowKit Go.Proofs.YtlmnmakkojgfnaaGreatDoorW.PrintWords Go.Proofs.YtlmnmakkojgfnaaGreatDoorW.PrintLast Go.Proofs.YtlmnmakkojgfnaaGreatDoorW.PrintMore Go.Shelf Go.Proofs.YtlmnmakkojgfnaaGreatDoorOwn
attribute [local go_sem] max2_int min2_int max_two min_two max_three min_three max_four min_four   -- for this text's walks alone
set_option linter.unusedVariables false
set_option linter.unusedSimpArgs false

/-! ### impl_GoodResponse: function 142 -/
def impl_GoodResponse.f (k : Nat) (a0_0 : Int) (a0_1 : ByteArray) (l0_2 : List (S105)) (a0_3 : ByteArray) : Option (Bool) := (impl_isResponseLine.f a0_0 a0_1 l0_2 a0_3).bind fun t451 => (if t451 = true then ((impl_responseLine.f a0_0 a0_1 l0_2 a0_3).bind fun t452 => ((impl_isMessage.f k t452 l0_2 a0_3).bind fun t453 => (some t453))) else (some false))
theorem impl_GoodResponse.mono : ∀ a0 a1 a2 a3 k, LeO (impl_GoodResponse.f k a0 a1 a2 a3) (impl_GoodResponse.f (k + 1) a0 a1 a2 a3) := by
 intro a0 a1 a2 a3 k
 unfold impl_GoodResponse.f
 repeat' with_reducible first | exact impl_isMessage.mono _ _ _ _ | exact LeO.refl _ | exact LeO.none _ | refine LeO.ite ?_ ?_ | refine LeO.bind ?_ (fun _ => ?_)
def impl_GoodResponse.T1 : Bool × List (List Nat × List Nat) := (true, [([], []), ([0], [0]), ([1, 1], [1]), ([2], [2]), ([3, 2, 2], [2, 3]), ([2], [2]), ([5, 2], [2, 5]), ([2], [2]), ([7, 2], [2, 7]), ([4, 6, 8, 4, 2], [2, 4, 6, 8]), ([2, 9], [2, 9]), ([10, 9, 0, 1, 2, 3, 4, 5, 6, 7, 8, 9, 10], [10])])
def impl_GoodResponse.B1 : List Nat := [0, 1, 3, 7, 15, 7, 39, 7, 135, 511, 1023, 2047]
theorem impl_GoodResponse.tab1 : rtab .any (opsOf Tryz.f142 1) = impl_GoodResponse.T1 := by kernel_rfl
theorem impl_GoodResponse.bits1 : waitsOk impl_GoodResponse.T1.2 impl_GoodResponse.B1 = true := by kernel_rfl
set_option maxHeartbeats 8000000 in
set_option maxRecDepth 100000 in
theorem impl_GoodResponse.calls (k : Nat) (a0_0 : Int) (a0_1 : ByteArray) (A0_2 : Option Addr) (c0_2 : Nat) (l0_2 : List (S105)) (a0_3 : ByteArray) (r : Bool) (w : World) (hr0_2 : Kd.C k105 w A0_2 l0_2.length l0_2) (hc0_2 : l0_2.length ≤ c0_2) (h : impl_GoodResponse.f k a0_0 a0_1 l0_2 a0_3 = some r) (ht : Glob w) :
  Calls Tryz.prog 142 #[.agg #[.int .i64 a0_0, .string a0_1, .slice A0_2 l0_2.length c0_2, .string a0_3]] w fun e w' => e = .returned (.bool r) ∧ Below w.heap.size w w' := by
 have hu57 := Tryz.underlying57
 have HR0_2 := ak hr0_2
 have HC0_2 := ak hc0_2
 clear hr0_2 hc0_2
 have HT := ak ht
 clear ht
 have HB := ak (Below.refl w.heap.size w)
 unfold impl_GoodResponse.f at h; have H := h
 clear h
 replace H := bs H
 obtain ⟨t451, A2, H⟩ := H
 try dsimp only at H
 by_cases c3 : t451 = true
 ·subst c3
  rw [if_pos rfl] at H
  replace H := bs H
  obtain ⟨t452, A4, H⟩ := H
  try dsimp only at H
  replace H := bs H
  obtain ⟨t453, A5, H⟩ := H
  try dsimp only at H
  obtain rfl := Option.some.inj H
  go_enter Tryz.func142, Tryz.ntmps142
  try go_wp2_with (first | ((with_reducible refine gd 1 ?_); refine bE 1 #[.int .i64 a0_0, .string a0_1, .slice A0_2 l0_2.length c0_2, .string a0_3] 57 ?_; intro gb450 hg w6 hbox hb; have BK450 := ak hbox; have GW450 := gs hg (bl HB.out); have GE450 := gs hg (bl HB.out); replace HB := ak (below_step (bl HB.out) hb); clear hb hbox hg))
  replace BK450 := ak (blk_drew BK450.out)
  replace HB := ak (below_drew1 HB.out)
  refine start_ (n := 12) (S := fun w' => w'.cell? ⟨gb450, 0, none⟩ = some (.int .i64 a0_0) ∧ w'.cell? ⟨gb450, 1, none⟩ = some (.string a0_1) ∧ w'.cell? ⟨gb450, 2, none⟩ = some (.slice A0_2 l0_2.length c0_2) ∧ w'.cell? ⟨gb450, 3, none⟩ = some (.string a0_3)) (ds := []) #[false, false, false, false, false, false, false, false, false, false, false, false] (by kernel_rfl) rfl rfl ⟨bc0 BK450.out, bc1 BK450.out, bc2 BK450.out, bc3 BK450.out⟩ (fun hHeld => ?_); refine with_tabW impl_GoodResponse.tab1 impl_GoodResponse.bits1 (fun HT_ HW_ => ?_)
  generalize w6.drew = w7 at BK450 HB hHeld ⊢
  refine tk 0 (some 3) HT_ HW_ hHeld ?_
  refine on 1 (some 4) HT_ (fun K hK => ?_)
  refine gO Tryz.func178 #[.agg #[.int .i64 a0_0, .string a0_1, .slice A0_2 l0_2.length c0_2, .string a0_3]] ?_
  with_reducible refine (impl_isResponseLine.calls a0_0 a0_1 _ _ l0_2 a0_3 true _ ?side1 ?side2 A2.out).mono ?_
  (case side1 => exact kc (Kd.C_below HR0_2.out HB.out))
  (case side2 => exact HC0_2.out)
  rintro e w8 ⟨rfl, hb⟩
  refine ⟨_, rfl, ?_⟩
  replace BK450 := ak (blk_below (bk BK450.out) hb)
  replace HB := ak (below_step (bl1 HB.out GE450.out) hb)
  clear hb
  refine hK.out _ _ ⟨bc0 BK450.out, bc1 BK450.out, bc2 BK450.out, bc3 BK450.out⟩ (fun hHeld => ?_)
  clear hK K
  refine nr (some 4) ?_
  refine pu 2 (some 5) HT_ ?_
  refine pu 5 (some 8) HT_ ?_
  refine pu 7 (some 10) HT_ ?_
  refine tk 3 (some 6) HT_ HW_ hHeld ?_
  refine tk 6 (some 9) HT_ HW_ hHeld ?_
  refine tk 8 (some 11) HT_ HW_ hHeld ?_
  refine on 4 (some 7) HT_ (fun K hK => ?_)
  refine gO Tryz.func179 #[.agg #[.int .i64 a0_0, .string a0_1, .slice A0_2 l0_2.length c0_2, .string a0_3]] ?_
  with_reducible refine (impl_responseLine.calls a0_0 a0_1 _ _ l0_2 a0_3 t452 _ ?side1 ?side2 A4.out (globg HT.out (bl1 HB.out GE450.out))).mono ?_
  (case side1 => exact kc (Kd.C_below HR0_2.out HB.out))
  (case side2 => exact HC0_2.out)
  rintro e w9 ⟨rfl, hb⟩
  refine ⟨_, rfl, ?_⟩
  replace BK450 := ak (blk_below (bk BK450.out) hb)
  replace HB := ak (below_step (bl1 HB.out GE450.out) hb)
  clear hb
  refine hK.out _ _ ⟨bc0 BK450.out, bc1 BK450.out, bc2 BK450.out, bc3 BK450.out⟩ (fun hHeld => ?_)
  clear hK K
  refine nr (some 7) ?_
  refine on 9 (some 12) HT_ (fun K hK => ?_)
  refine gO Tryz.func112 #[.string t452, .slice A0_2 l0_2.length c0_2, .string a0_3] ?_
  with_reducible refine (impl_isMessage.calls k t452 _ _ l0_2 a0_3 t453 _ ?side1 ?side2 A5.out (globg HT.out (bl1 HB.out GE450.out))).mono ?_
  (case side1 => exact kc (Kd.C_below HR0_2.out HB.out))
  (case side2 => exact HC0_2.out)
  rintro e w10 ⟨rfl, hb⟩
  refine ⟨_, rfl, ?_⟩
  replace BK450 := ak (blk_below (bk BK450.out) hb)
  replace HB := ak (below_step (bl1 HB.out GE450.out) hb)
  clear hb
  refine hK.out _ _ ⟨bc0 BK450.out, bc1 BK450.out, bc2 BK450.out, bc3 BK450.out⟩ (fun hHeld => ?_)
  clear hK K
  refine nr (some 12) ?_
  refine pu 10 (some 13) HT_ ?_
  refine pu 11 (some 2) HT_ ?_
  refine done_ (done_of HT_.out (by kernel_rfl)) ?_
  try go_wp2
  go_ret
  exact rz (bl1 HB.out GE450.out)
 ·replace c3 := Bool.eq_false_iff.mpr c3
  subst c3
  rw [if_neg ff] at H
  obtain rfl := Option.some.inj H
  go_enter Tryz.func142, Tryz.ntmps142
  try go_wp2_with (first | ((with_reducible refine gd 1 ?_); refine bE 1 #[.int .i64 a0_0, .string a0_1, .slice A0_2 l0_2.length c0_2, .string a0_3] 57 ?_; intro gb450 hg w11 hbox hb; have BK450 := ak hbox; have GW450 := gs hg (bl HB.out); have GE450 := gs hg (bl HB.out); replace HB := ak (below_step (bl HB.out) hb); clear hb hbox hg))
  replace BK450 := ak (blk_drew BK450.out)
  replace HB := ak (below_drew1 HB.out)
  refine start_ (n := 12) (S := fun w' => w'.cell? ⟨gb450, 0, none⟩ = some (.int .i64 a0_0) ∧ w'.cell? ⟨gb450, 1, none⟩ = some (.string a0_1) ∧ w'.cell? ⟨gb450, 2, none⟩ = some (.slice A0_2 l0_2.length c0_2) ∧ w'.cell? ⟨gb450, 3, none⟩ = some (.string a0_3)) (ds := []) #[false, false, false, false, false, false, false, false, false, false, false, false] (by kernel_rfl) rfl rfl ⟨bc0 BK450.out, bc1 BK450.out, bc2 BK450.out, bc3 BK450.out⟩ (fun hHeld => ?_); refine with_tabW impl_GoodResponse.tab1 impl_GoodResponse.bits1 (fun HT_ HW_ => ?_)
  generalize w11.drew = w12 at BK450 HB hHeld ⊢
  refine tk 0 (some 3) HT_ HW_ hHeld ?_
  refine on 1 (some 4) HT_ (fun K hK => ?_)
  refine gO Tryz.func178 #[.agg #[.int .i64 a0_0, .string a0_1, .slice A0_2 l0_2.length c0_2, .string a0_3]] ?_
  with_reducible refine (impl_isResponseLine.calls a0_0 a0_1 _ _ l0_2 a0_3 false _ ?side1 ?side2 A2.out).mono ?_
  (case side1 => exact kc (Kd.C_below HR0_2.out HB.out))
  (case side2 => exact HC0_2.out)
  rintro e w13 ⟨rfl, hb⟩
  refine ⟨_, rfl, ?_⟩
  replace BK450 := ak (blk_below (bk BK450.out) hb)
  replace HB := ak (below_step (bl1 HB.out GE450.out) hb)
  clear hb
  refine hK.out _ _ ⟨bc0 BK450.out, bc1 BK450.out, bc2 BK450.out, bc3 BK450.out⟩ (fun hHeld => ?_)
  clear hK K
  refine nr (some 4) ?_
  refine pu 2 (some 5) HT_ ?_
  refine pn 3 (some 6) HT_ ?_
  refine pn 4 (some 7) HT_ ?_
  refine pn 5 (some 8) HT_ ?_
  refine pn 6 (some 9) HT_ ?_
  refine pn 7 (some 10) HT_ ?_
  refine pn 8 (some 11) HT_ ?_
  refine pn 9 (some 12) HT_ ?_
  refine pu 10 (some 13) HT_ ?_
  refine pu 11 (some 2) HT_ ?_
  refine done_ (done_of HT_.out (by kernel_rfl)) ?_
  try go_wp2
  go_ret
  exact rz (bl1 HB.out GE450.out)

/-! ### impl_GoodKept: function 97 -/
def impl_GoodKept.f (k : Nat) (a0_0 : Int) (a0_1 : ByteArray) (l0_2 : List (S105)) (a0_3 : ByteArray) (a0_4 : Int) (a0_5 : Int) : Option (Bool) := (impl_GoodResponse.f k a0_0 a0_1 l0_2 a0_3).bind fun t455 => (if t455 = true then ((impl_within.f a0_4 0 a0_5).bind fun t456 => (if t456 = true then (some (decide (a0_5 ≤ 253402300799))) else (some false))) else (some false))
theorem impl_GoodKept.mono : ∀ a0 a1 a2 a3 a4 a5 k, LeO (impl_GoodKept.f k a0 a1 a2 a3 a4 a5) (impl_GoodKept.f (k + 1) a0 a1 a2 a3 a4 a5) := by
 intro a0 a1 a2 a3 a4 a5 k
 unfold impl_GoodKept.f
 repeat' with_reducible first | exact impl_GoodResponse.mono _ _ _ _ _ | exact LeO.refl _ | exact LeO.none _ | refine LeO.ite ?_ ?_ | refine LeO.bind ?_ (fun _ => ?_)
set_option maxHeartbeats 8000000 in
set_option maxRecDepth 100000 in
theorem impl_GoodKept.calls (k : Nat) (a0_0 : Int) (a0_1 : ByteArray) (A0_2 : Option Addr) (c0_2 : Nat) (l0_2 : List (S105)) (a0_3 : ByteArray) (a0_4 : Int) (a0_5 : Int) (r : Bool) (w : World) (hr0_2 : Kd.C k105 w A0_2 l0_2.length l0_2) (hc0_2 : l0_2.length ≤ c0_2) (h : impl_GoodKept.f k a0_0 a0_1 l0_2 a0_3 a0_4 a0_5 = some r) (ht : Glob w) :
  Calls Tryz.prog 97 #[.agg #[.int .i64 a0_0, .string a0_1, .slice A0_2 l0_2.length c0_2, .string a0_3, .int .i64 a0_4, .int .i64 a0_5]] w fun e w' => e = .returned (.bool r) ∧ Below w.heap.size w w' := by
 have hu59 := Tryz.underlying59
 have hu57 := Tryz.underlying57
 have HR0_2 := ak hr0_2
 have HC0_2 := ak hc0_2
 clear hr0_2 hc0_2
 have HT := ak ht
 clear ht
 have HB := ak (Below.refl w.heap.size w)
 unfold impl_GoodKept.f at h; have H := h
 clear h
 replace H := bs H
 obtain ⟨t455, A2, H⟩ := H
 try dsimp only at H
 by_cases c3 : t455 = true
 ·subst c3
  rw [if_pos rfl] at H
  replace H := bs H
  obtain ⟨t456, A4, H⟩ := H
  try dsimp only at H
  by_cases c5 : t456 = true
  ·subst c5
   rw [if_pos rfl] at H
   obtain rfl := Option.some.inj H
   go_enter Tryz.func97, Tryz.ntmps97
   go_wp2_with (first | ((with_reducible refine gd 1 ?_); refine bE 1 #[.int .i64 a0_0, .string a0_1, .slice A0_2 l0_2.length c0_2, .string a0_3, .int .i64 a0_4, .int .i64 a0_5] 59 ?_; intro gb454 hg w6 hbox hb; have BK454 := ak hbox; have GW454 := gs hg (bl HB.out); have GE454 := gs hg (bl HB.out); replace HB := ak (below_step (bl HB.out) hb); clear hb hbox hg; obtain ⟨_, _, _, _, _, _, _, _, _, _, _, _⟩ := b6 BK454.out) | ((with_reducible refine gc 142 ?_); refine gL 142 Tryz.func142 (some 5) #[.agg #[.int .i64 a0_0, .string a0_1, .slice A0_2 l0_2.length c0_2, .string a0_3]] ?_; (with_reducible refine (impl_GoodResponse.calls k a0_0 a0_1 _ _ l0_2 a0_3 true _ ?side1 ?side2 A2.out (globg HT.out (bl1 HB.out GE454.out))).mono ?_); (case side1 => exact kc (Kd.C_below HR0_2.out HB.out)); (case side2 => exact HC0_2.out); rintro e w8 ⟨rfl, hb⟩; refine ⟨_, rfl, ?_⟩; replace BK454 := ak (blk_below (bk BK454.out) hb); replace HB := ak (below_step (bl1 HB.out GE454.out) hb); clear hb; obtain ⟨_, _, _, _, _, _, _, _, _, _, _, _⟩ := b6 BK454.out) | (go_at_call 78; (with_reducible refine (impl_within.calls a0_4 0 a0_5 true _ A4.out).mono ?_); rintro e w' ⟨rfl, ⟨nd, rfl⟩⟩))
   go_ret
   exact rz (bl1 HB.out GE454.out)
  ·replace c5 := Bool.eq_false_iff.mpr c5
   subst c5
   rw [if_neg ff] at H
   obtain rfl := Option.some.inj H
   go_enter Tryz.func97, Tryz.ntmps97
   go_wp2_with (first | ((with_reducible refine gd 1 ?_); refine bE 1 #[.int .i64 a0_0, .string a0_1, .slice A0_2 l0_2.length c0_2, .string a0_3, .int .i64 a0_4, .int .i64 a0_5] 59 ?_; intro gb454 hg w10 hbox hb; have BK454 := ak hbox; have GW454 := gs hg (bl HB.out); have GE454 := gs hg (bl HB.out); replace HB := ak (below_step (bl HB.out) hb); clear hb hbox hg; obtain ⟨_, _, _, _, _, _, _, _, _, _, _, _⟩ := b6 BK454.out) | ((with_reducible refine gc 142 ?_); refine gL 142 Tryz.func142 (some 5) #[.agg #[.int .i64 a0_0, .string a0_1, .slice A0_2 l0_2.length c0_2, .string a0_3]] ?_; (with_reducible refine (impl_GoodResponse.calls k a0_0 a0_1 _ _ l0_2 a0_3 true _ ?side1 ?side2 A2.out (globg HT.out (bl1 HB.out GE454.out))).mono ?_); (case side1 => exact kc (Kd.C_below HR0_2.out HB.out)); (case side2 => exact HC0_2.out); rintro e w12 ⟨rfl, hb⟩; refine ⟨_, rfl, ?_⟩; replace BK454 := ak (blk_below (bk BK454.out) hb); replace HB := ak (below_step (bl1 HB.out GE454.out) hb); clear hb; obtain ⟨_, _, _, _, _, _, _, _, _, _, _, _⟩ := b6 BK454.out) | (go_at_call 78; (with_reducible refine (impl_within.calls a0_4 0 a0_5 false _ A4.out).mono ?_); rintro e w' ⟨rfl, ⟨nd, rfl⟩⟩))
   go_ret
   exact rz (bl1 HB.out GE454.out)
 ·replace c3 := Bool.eq_false_iff.mpr c3
  subst c3
  rw [if_neg ff] at H
  obtain rfl := Option.some.inj H
  go_enter Tryz.func97, Tryz.ntmps97
  go_wp2_with (first | ((with_reducible refine gd 1 ?_); refine bE 1 #[.int .i64 a0_0, .string a0_1, .slice A0_2 l0_2.length c0_2, .string a0_3, .int .i64 a0_4, .int .i64 a0_5] 59 ?_; intro gb454 hg w14 hbox hb; have BK454 := ak hbox; have GW454 := gs hg (bl HB.out); have GE454 := gs hg (bl HB.out); replace HB := ak (below_step (bl HB.out) hb); clear hb hbox hg; obtain ⟨_, _, _, _, _, _, _, _, _, _, _, _⟩ := b6 BK454.out) | ((with_reducible refine gc 142 ?_); refine gL 142 Tryz.func142 (some 5) #[.agg #[.int .i64 a0_0, .string a0_1, .slice A0_2 l0_2.length c0_2, .string a0_3]] ?_; (with_reducible refine (impl_GoodResponse.calls k a0_0 a0_1 _ _ l0_2 a0_3 false _ ?side1 ?side2 A2.out (globg HT.out (bl1 HB.out GE454.out))).mono ?_); (case side1 => exact kc (Kd.C_below HR0_2.out HB.out)); (case side2 => exact HC0_2.out); rintro e w16 ⟨rfl, hb⟩; refine ⟨_, rfl, ?_⟩; replace BK454 := ak (blk_below (bk BK454.out) hb); replace HB := ak (below_step (bl1 HB.out GE454.out) hb); clear hb))
  go_ret
  exact rz (bl1 HB.out GE454.out)

-- NOT PRINTED: function 190 (slices_IndexFunc_string_string)

-- NOT PRINTED: function 160 (slices_ContainsFunc_string_string)

-- NOT PRINTED: function 161 (impl_areAll_string_1)

-- NOT PRINTED: function 114 (impl_areAll_string)

-- NOT PRINTED: function 219 (abi_NoEscape)

-- NOT PRINTED: function 191 (strings_Builder_copyCheck)

-- NOT PRINTED: function 220 (bytealg_MakeNoZero)

-- NOT PRINTED: function 192 (strings_Builder_grow)

-- NOT PRINTED: function 162 (strings_Builder_Grow)

-- NOT PRINTED: function 163 (strings_Builder_WriteString)

-- NOT PRINTED: function 164 (strings_Builder_String)

/-! ### strings_Join: function 117 -/
def strings_Join.f (l0 : List ByteArray) (a1 : ByteArray) : Option ByteArray := if l0.length ≤ 140737488355328 ∧ (joinT l0 a1).size ≤ 140737488355328 then some (joinT l0 a1) else none
theorem strings_Join.calls (A0 : Option Addr) (c0 : Nat) (l0 : List ByteArray) (a1 : ByteArray) (r : ByteArray) (w : World) (hr0 : Kd.C Kd.string w A0 l0.length l0) (hc0 : l0.length ≤ c0) (h : strings_Join.f l0 a1 = some r) :
  Calls Tryz.prog 117 #[.slice A0 l0.length c0, .string a1] w fun e w' => e = .returned (.string r) ∧ Below w.heap.size w w' := by
 unfold strings_Join.f at h
 split at h
 ·rename_i hc
  obtain rfl := Option.some.inj h
  exact itJoined A0 c0 l0 a1 w hr0 hc.1 hc0 hc.2
 ·cases h


/-! ### cmp_isNaN_string: function 234 -/
def cmp_isNaN_string.f (a0 : ByteArray) : Option (Bool) := some (a0.toList != a0.toList)
set_option maxHeartbeats 8000000 in
set_option maxRecDepth 100000 in
theorem cmp_isNaN_string.calls (a0 : ByteArray) (r : Bool) (w : World) (h : cmp_isNaN_string.f a0 = some r) :
  Calls Tryz.prog 234 #[.string a0] w fun e w' => e = .returned (.bool r) ∧ Drawn0 w w' := by
 have H : (some (a0.toList != a0.toList)) = some r := h
 clear h
 obtain rfl := Option.some.inj H
 go_enter Tryz.func234, Tryz.ntmps234
 go_wp2
 go_ret
 exact ⟨by first | rfl | (simp; done) | (simp [*]; done) | (simp only [Ending.returned.injEq, Value.tuple.injEq, i64_w]; rfl) | (simp [i64_w]; rfl), by repeat (first | exact Drawn0.refl _ | apply Drawn0.step)⟩

/-! ### cmp_Less_string: function 211 -/
def cmp_Less_string.f (a0 : ByteArray) (a1 : ByteArray) : Option (Bool) := (cmp_isNaN_string.f a0).bind fun t457 => (if t457 = true then ((cmp_isNaN_string.f a1).bind fun t458 => (if t458 = true then (some (Op.bytesLess a0.toList a1.toList)) else (some true))) else (some (Op.bytesLess a0.toList a1.toList)))
set_option maxHeartbeats 8000000 in
set_option maxRecDepth 100000 in
theorem cmp_Less_string.calls (a0 : ByteArray) (a1 : ByteArray) (r : Bool) (w : World) (h : cmp_Less_string.f a0 a1 = some r) :
  Calls Tryz.prog 211 #[.string a0, .string a1] w fun e w' => e = .returned (.bool r) ∧ Drawn0 w w' := by
 unfold cmp_Less_string.f at h; have H := h
 clear h
 replace H := bs H
 obtain ⟨t457, A3, H⟩ := H
 try dsimp only at H
 by_cases c4 : t457 = true
 ·subst c4
  rw [if_pos rfl] at H
  replace H := bs H
  obtain ⟨t458, A5, H⟩ := H
  try dsimp only at H
  by_cases c6 : t458 = true
  ·subst c6
   rw [if_pos rfl] at H
   obtain rfl := Option.some.inj H
   go_enter Tryz.func211, Tryz.ntmps211
   go_wp2_with (first | ((with_reducible refine gc 234 ?_); refine gL 234 Tryz.func234 (some 6) #[.string a0] ?_; (with_reducible refine (cmp_isNaN_string.calls a0 true _ A3.out).mono ?_); rintro e w' ⟨rfl, ⟨nd, rfl⟩⟩; refine ⟨_, rfl, ?_⟩) | (go_at_call 234; (with_reducible refine (cmp_isNaN_string.calls a1 true _ A5.out).mono ?_); rintro e w' ⟨rfl, ⟨nd, rfl⟩⟩))
   go_ret
   exact ⟨by first | rfl | (simp; done) | (simp [*]; done) | (simp only [Ending.returned.injEq, Value.tuple.injEq, i64_w]; rfl) | (simp [i64_w]; rfl), by repeat (first | exact Drawn0.refl _ | apply Drawn0.step)⟩
  ·replace c6 := Bool.eq_false_iff.mpr c6
   subst c6
   rw [if_neg ff] at H
   obtain rfl := Option.some.inj H
   go_enter Tryz.func211, Tryz.ntmps211
   go_wp2_with (first | ((with_reducible refine gc 234 ?_); refine gL 234 Tryz.func234 (some 6) #[.string a0] ?_; (with_reducible refine (cmp_isNaN_string.calls a0 true _ A3.out).mono ?_); rintro e w' ⟨rfl, ⟨nd, rfl⟩⟩; refine ⟨_, rfl, ?_⟩) | (go_at_call 234; (with_reducible refine (cmp_isNaN_string.calls a1 false _ A5.out).mono ?_); rintro e w' ⟨rfl, ⟨nd, rfl⟩⟩))
   go_ret
   exact ⟨by first | rfl | (simp; done) | (simp [*]; done) | (simp only [Ending.returned.injEq, Value.tuple.injEq, i64_w]; rfl) | (simp [i64_w]; rfl), by repeat (first | exact Drawn0.refl _ | apply Drawn0.step)⟩
 ·replace c4 := Bool.eq_false_iff.mpr c4
  subst c4
  rw [if_neg ff] at H
  obtain rfl := Option.some.inj H
  go_enter Tryz.func211, Tryz.ntmps211
  go_wp2_with (first | ((with_reducible refine gc 234 ?_); refine gL 234 Tryz.func234 (some 6) #[.string a0] ?_; (with_reducible refine (cmp_isNaN_string.calls a0 false _ A3.out).mono ?_); rintro e w' ⟨rfl, ⟨nd, rfl⟩⟩; refine ⟨_, rfl, ?_⟩))
  go_ret
  exact ⟨by first | rfl | (simp; done) | (simp [*]; done) | (simp only [Ending.returned.injEq, Value.tuple.injEq, i64_w]; rfl) | (simp [i64_w]; rfl), by repeat (first | exact Drawn0.refl _ | apply Drawn0.step)⟩

-- NOT PRINTED: function 205 (slices_insertionSortOrdered_string)

-- NOT PRINTED: function 229 (slices_siftDownOrdered_string)

-- NOT PRINTED: function 206 (slices_heapSortOrdered_string)

-- NOT PRINTED: function 214 (bits_Len32)

-- NOT PRINTED: function 182 (bits_Len)

-- NOT PRINTED: function 230 (slices_nextPowerOfTwo)

-- NOT PRINTED: function 231 (slices_xorshift_Next)

-- NOT PRINTED: function 207 (slices_breakPatternsOrdered_string)

-- NOT PRINTED: function 244 (slices_order2Ordered_string)

-- NOT PRINTED: function 233 (slices_medianOrdered_string)

-- NOT PRINTED: function 232 (slices_medianAdjacentOrdered_string)

-- NOT PRINTED: function 208 (slices_choosePivotOrdered_string)

-- NOT PRINTED: function 209 (slices_reverseRangeOrdered_string)

-- NOT PRINTED: function 210 (slices_partialInsertionSortOrdered_string)

-- NOT PRINTED: function 212 (slices_partitionEqualOrdered_string)

-- NOT PRINTED: function 213 (slices_partitionOrdered_string)

-- NOT PRINTED: function 181 (slices_pdqsortOrdered_string)

-- NOT PRINTED: function 146 (slices_Sort_string_string)

-- NOT PRINTED: function 147 (slices_Compact_string_string)

/-! ### areAll, function 114, at any predicate -/
set_option maxHeartbeats 800000 in
theorem areAll_g114.neg (h : Nat) (p : ByteArray → Option Bool) (hp : PredOk Tryz.prog h Value.string p) (eg : ∀ args w, (callFunc h args).run Tryz.prog w = .ok (.enter h args) w)
  (x : ByteArray) (r : Bool) (b : Nat) (w : World) (hc : w.cell? ⟨b, 0, none⟩ = some (.func (.func h) #[] #[])) (hx : p x = some r) :
  Calls Tryz.prog 161 #[.string x, .pointer (some ⟨b, 0, none⟩)] w fun e w' => e = .returned (.bool (!r)) ∧ Below w.heap.size w w' := by
 have hh := hp x r
 clear hp
 go_enter Tryz.func161, Tryz.ntmps161
 go_wp2_with (go_at_fn h; refine (hh _ hx).mono ?_; rintro e w' ⟨rfl, hb⟩)
 go_ret
 exact ⟨rfl, hb⟩
set_option maxHeartbeats 800000 in
theorem areAll_g114.idx (h : Nat) (p : ByteArray → Option Bool) (hp : PredOk Tryz.prog h Value.string p) (eg : ∀ args w, (callFunc h args).run Tryz.prog w = .ok (.enter h args) w)
  (eg90 : ∀ args w, (callFunc 161 args).run Tryz.prog w = .ok (.enter 161 args) w)
  (A : Option Addr) (c : Nat) (l : List ByteArray) (r : Int) (b : Nat) (w : World) (hr : Kd.C Kd.string w A l.length l) (hb : b < w.heap.size) (hcb : w.cell? ⟨b, 0, none⟩ = some (.func (.func h) #[] #[])) (hx : idxO p l 0 = some r) :
  Calls Tryz.prog 190 #[.slice A l.length c, .func (.func 161) #[] #[.pointer (some ⟨b, 0, none⟩)]] w fun e w' => e = .returned (.int .i64 r) ∧ Below w.heap.size w w' := by
 have hm := Kd.C_max hr
 have HX := ak hx
 have HP := ak hp
 have HR := ak hr
 have HC := ak hcb
 have EG := ak eg
 clear hx hp hr hcb eg
 go_enter Tryz.func190, Tryz.ntmps190
 go_wp2
 go_loopg [5, 8] l.length (fun gg _ s8 wr => ∃ j : Nat, j ≤ l.length ∧ l.length - j ≤ gg ∧ s8 = .int .i64 j ∧ Aside0 (Below w.heap.size w wr) ∧ Aside0 (idxO p (l.drop j) j = some r))
 case atStart => exact ⟨0, Nat.zero_le _, by omega, rfl, ⟨Below.refl _ w⟩, ⟨HX.out⟩⟩
 case round =>
  obtain ⟨j, hj, hg, rfl, BW, HA⟩ := hrel
  by_cases hlt : j < l.length
  ·have hlt' : (j : Int) < (l.length : Int) := by omega
   have h0 : (0 : Int) ≤ (j : Int) := by omega
   obtain ⟨bo, hbo, hy, hn⟩ := idxO_step p l ByteArray.empty j hlt r HA.out
   obtain ⟨ad, ea, hcell⟩ := Kd.at_string (Kd.C_below HR.out BW.out) (j : Int) h0 hlt'
   cases ea
   have hcell2 : wr.cell? (ad.add j) = some (.string (l.getD j ByteArray.empty)) := hcell
   clear hcell
   have hc2 := (BW.out.cell (p := ⟨b, 0, none⟩) hb).trans HC.out
   have hbw : w.heap.size ≤ wr.heap.size := BW.out.size
   generalize l.getD j ByteArray.empty = y at hbo hcell2
   have hcall := areAll_g114.neg h p HP.out EG.out y bo b wr hc2 hbo
   have HY := ak hy
   have HN := ak hn
   have HC2 := ak hcall
   clear hy hn hbo hcall hc2
   cases bo with
   | true =>
    go_wp2_with (go_at_fn 161; refine HC2.out.mono ?_; rintro e w' ⟨rfl, hb'⟩)
    go_roundg (l.length - (j + 1))
    case measure => omega
    case rel => exact ⟨j + 1, by omega, by omega, by go_num, ⟨below_then BW.out hbw hb'⟩, ⟨HY.out (by simp)⟩⟩
   | false =>
    go_wp2_with (go_at_fn 161; refine HC2.out.mono ?_; rintro e w' ⟨rfl, hb'⟩)
    go_ret
    exact ⟨congrArg (fun z => Ending.returned (.int .i64 z)) (HN.out (by simp)).symm, below_then BW.out hbw hb'⟩
  ·have hlt' : ¬ (j : Int) < (l.length : Int) := by omega
   have : j = l.length := by omega
   subst this
   have HA2 := HA.out
   rw [List.drop_length] at HA2
   simp only [idxO, Option.some.injEq] at HA2
   have HA3 := ak HA2
   clear HA2
   go_wp2
   go_ret
   exact ⟨congrArg (fun z => Ending.returned (.int .i64 z)) HA3.out, BW.out⟩
set_option maxHeartbeats 800000 in
theorem areAll_g114.has (h : Nat) (p : ByteArray → Option Bool) (hp : PredOk Tryz.prog h Value.string p) (eg : ∀ args w, (callFunc h args).run Tryz.prog w = .ok (.enter h args) w)
  (eg90 : ∀ args w, (callFunc 161 args).run Tryz.prog w = .ok (.enter 161 args) w)
  (A : Option Addr) (c : Nat) (l : List ByteArray) (r : Bool) (b : Nat) (w : World) (hr : Kd.C Kd.string w A l.length l) (hb : b < w.heap.size) (hcb : w.cell? ⟨b, 0, none⟩ = some (.func (.func h) #[] #[])) (hx : allO p l = some r) :
  Calls Tryz.prog 160 #[.slice A l.length c, .func (.func 161) #[] #[.pointer (some ⟨b, 0, none⟩)]] w fun e w' => e = .returned (.bool (!r)) ∧ Below w.heap.size w w' := by
 obtain ⟨i, hi, h1, h2⟩ := allO_idx p l r hx 0
 have hcall := fun W hr hb hcb => areAll_g114.idx h p hp eg eg90 A c l i b W hr hb hcb hi
 have HC := ak hcall
 have HR := ak hr
 have HB := ak hcb
 have EG := ak eg
 clear hcall hr hp hx hi hcb eg
 cases r with
 | true =>
  obtain rfl := h1 rfl
  clear h1 h2
  go_enter Tryz.func160, Tryz.ntmps160
  go_wp2_with (go_at_call 190; refine (HC.out _ HR.out hb HB.out).mono ?_; rintro e w' ⟨rfl, hb'⟩)
  go_ret
  exact ⟨rfl, hb'⟩
 | false =>
  have h3 := h2 rfl
  have h4 : decide (0 ≤ i) = true := decide_eq_true h3
  clear h1 h2
  go_enter Tryz.func160, Tryz.ntmps160
  go_wp2_with (go_at_call 190; refine (HC.out _ HR.out hb HB.out).mono ?_; rintro e w' ⟨rfl, hb'⟩)
  go_ret
  exact ⟨rfl, hb'⟩
set_option maxHeartbeats 800000 in
theorem areAll_g114.all (h : Nat) (p : ByteArray → Option Bool) (hp : PredOk Tryz.prog h Value.string p) (eg : ∀ args w, (callFunc h args).run Tryz.prog w = .ok (.enter h args) w)
  (A : Option Addr) (c : Nat) (l : List ByteArray) (r : Bool) (w : World) (hr : Kd.C Kd.string w A l.length l) (hx : allO p l = some r) :
  Calls Tryz.prog 114 #[.slice A l.length c, .func (.func h) #[] #[]] w fun e w' => e = .returned (.bool r) ∧ Below w.heap.size w w' := by
 have eg90 : ∀ args w, (callFunc 161 args).run Tryz.prog w = .ok (.enter 161 args) w := enters_of Tryz.func161 (by kernel_rfl) rfl
 have hcall := fun W b hr hb hcb => areAll_g114.has h p hp eg eg90 A c l r b W hr hb hcb hx
 have HC := ak hcall
 have HR := ak hr
 have EG := ak eg
 clear hcall hr hp hx eg
 go_enter Tryz.func114, Tryz.ntmps114
 go_wp2_with (go_at_call 160; refine (HC.out _ _ (Kd.C_alloc HR.out _) (by simp) (by simp)).mono ?_; rintro e w' ⟨rfl, hb'⟩)
 go_ret
 exact ⟨rfl, below_then (below_alloc (Below.refl _ _) _) (by simp) hb'⟩

/-! ### impl_areAll_string__144: function 114 at the predicate 144 -/
def impl_areAll_string__144.f (l0 : List ByteArray) : Option Bool := allO (fun x => impl_isToken.f x) l0
theorem impl_areAll_string__144.calls (A0 : Option Addr) (c0 : Nat) (l0 : List ByteArray) (r : Bool) (w : World) (hr0 : Kd.C Kd.string w A0 l0.length l0) (hc0 : l0.length ≤ c0) (h : impl_areAll_string__144.f l0 = some r) :
  Calls Tryz.prog 114 #[.slice A0 l0.length c0, .func (.func 144) #[] #[]] w fun e w' => e = .returned (.bool r) ∧ Below w.heap.size w w' := by
 refine areAll_g114.all 144 (fun x => impl_isToken.f x) (fun x r w h => ?_) (enters_of Tryz.func144 (by kernel_rfl) rfl) A0 c0 l0 r w hr0 h
 refine (impl_isToken.calls x r w h).mono ?_
 rintro e w' ⟨rfl, hb⟩
 exact ⟨rfl, hb⟩

end Go.Proofs.YtlmnmakkojgfnaaGreatDoor.PFnExactKeptFor
