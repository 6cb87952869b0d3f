-- written by a program of this session (wip/tool)
import Derived.Test.YtlmnmakkojgfnaaGreatDoorPFnExactKeptForx0
import Derived.Test.YtlmnmakkojgfnaaGreatDoorPFnExactKeptForx1
import Derived.Test.YtlmnmakkojgfnaaGreatDoorPFnExactKeptForx2
import Derived.Test.YtlmnmakkojgfnaaGreatDoorPFnExactKeptForx3
import Derived.Test.YtlmnmakkojgfnaaGreatDoorPFnExactKeptForx12
import Derived.Test.YtlmnmakkojgfnaaGreatDoorPFnExactKeptForx20
import Derived.Test.YtlmnmakkojgfnaaGreatDoorVOwn0
import Derived.Test.YtlmnmakkojgfnaaGreatDoorVOwnOpen
import Derived.WalkKit
import Derived.BigCall
import Derived.Test.YtlmnmakkojgfnaaGreatDoorOwnTr
import Derived.Test.YtlmnmakkojgfnaaGreatDoorVOwnShort
import Derived.Test.YtlmnmakkojgfnaaGreatDoorOwnSq
import Derived.Test.YtlmnmakkojgfnaaGreatDoorOwnIt
namespace Go.Proofs.YtlmnmakkojgfnaaGreatDoor.PFnExactKeptFor
open Go.RowKit Go.Proofs.YtlmnmakkojgfnaaGreatDoorW.PrintWords Go.Proofs.YtlmnmakkojgfnaaGreatDoorW.PrintLast Go.Proofs.YtlmnmakkojgfnaaGreatDoorW.PrintMore Go.Shelf Go.Proofs.YtlmnmakkojgfnaaGreatDoorOwn
attribute [local go_sem] max2_int min2_int max_two min_two max_three min_three max_four min_four   -- for this text's walks alone
set_option linter.unusedVariables false
set_option linter.unusedSimpArgs false

/-! ### laws_FnExactKeptFor: function 4 -/
def laws_FnExactKeptFor.j0 : Nat → Bool → ByteArray → ByteArray → Int → ByteArray → ByteArray → Bool → Int → List (S52) → ByteArray → ByteArray → Int → ByteArray → ByteArray → Bool → Int → List (S61) → Option (Bool)
 | 0, _, _, _, _, _, _, _, _, _, _, _, _, _, _, _, _, _ => none
 | k + 1, x41, x547000, x547001, x547002, x547003, x547004, x547005, x547006, x547007, x571000, x571001, x571002, x571003, x571004, x571005, x571006, x571007 => if x41 = true then (none) else ((laws_toGateway.f k x547000 x547001 x547002 x547003 x547004 x547005 x547006 x547007).bind fun bt573 => ((laws_eqGateway.f k x571000 x571001 x571002 x571003 x571004 x571005 x571006 x571007 bt573.1 bt573.2.1 bt573.2.2.1 bt573.2.2.2.1 bt573.2.2.2.2.1 bt573.2.2.2.2.2.1 bt573.2.2.2.2.2.2.1 bt573.2.2.2.2.2.2.2).bind fun t583 => (if t583 = true then (some true) else (none))))
def laws_FnExactKeptFor.f (k : Nat) (a0_0 : ByteArray) (a0_1 : ByteArray) (a0_2 : Int) (a0_3 : ByteArray) (a0_4 : ByteArray) (a0_5 : Bool) (a0_6 : Int) (l0_7 : List (S52)) (a1 : ByteArray) : Option (Bool) := if (a1.size : Int) > 1048576 then (some true) else ((laws_szGateway.f k a0_0 a0_1 a0_2 a0_3 a0_4 a0_5 a0_6 l0_7 1048576).bind fun t547 => (if t547 < 0 then (some true) else ((laws_toGateway.f k a0_0 a0_1 a0_2 a0_3 a0_4 a0_5 a0_6 l0_7).bind fun bt548 => ((spec_KeptFor.f k bt548.1 bt548.2.1 bt548.2.2.1 bt548.2.2.2.1 bt548.2.2.2.2.1 bt548.2.2.2.2.2.1 bt548.2.2.2.2.2.2.1 bt548.2.2.2.2.2.2.2 a1).bind fun bt558 => ((laws_toGateway.f k a0_0 a0_1 a0_2 a0_3 a0_4 a0_5 a0_6 l0_7).bind fun bt560 => ((impl_KeptFor.f k bt560.1 bt560.2.1 bt560.2.2.1 bt560.2.2.2.1 bt560.2.2.2.2.1 bt560.2.2.2.2.2.1 bt560.2.2.2.2.2.2.1 bt560.2.2.2.2.2.2.2 a1).bind fun bt571 => (if bt571.1 = bt558.1 then (laws_FnExactKeptFor.j0 k (bt571.2 != bt558.2) a0_0 a0_1 a0_2 a0_3 a0_4 a0_5 a0_6 l0_7 bt560.1 bt560.2.1 bt560.2.2.1 bt560.2.2.2.1 bt560.2.2.2.2.1 bt560.2.2.2.2.2.1 bt560.2.2.2.2.2.2.1 bt560.2.2.2.2.2.2.2) else (laws_FnExactKeptFor.j0 k true a0_0 a0_1 a0_2 a0_3 a0_4 a0_5 a0_6 l0_7 bt560.1 bt560.2.1 bt560.2.2.1 bt560.2.2.2.1 bt560.2.2.2.2.1 bt560.2.2.2.2.2.1 bt560.2.2.2.2.2.2.1 bt560.2.2.2.2.2.2.2))))))))
theorem laws_FnExactKeptFor.mono_l : ∀ k, (∀ y0 y1 y2 y3 y4 y5 y6 y7 y8 y9 y10 y11 y12 y13 y14 y15 y16, LeO (laws_FnExactKeptFor.j0 k y0 y1 y2 y3 y4 y5 y6 y7 y8 y9 y10 y11 y12 y13 y14 y15 y16) (laws_FnExactKeptFor.j0 (k + 1) y0 y1 y2 y3 y4 y5 y6 y7 y8 y9 y10 y11 y12 y13 y14 y15 y16))
 | 0 => fun _ _ _ _ _ _ _ _ _ _ _ _ _ _ _ _ _ r h => by simp [laws_FnExactKeptFor.j0] at h
 | k + 1 => by
  have ih0 := laws_FnExactKeptFor.mono_l k
  ·intro y0 y1 y2 y3 y4 y5 y6 y7 y8 y9 y10 y11 y12 y13 y14 y15 y16
   unfold laws_FnExactKeptFor.j0
   repeat' with_reducible first | exact ih0 _ _ _ _ _ _ _ _ _ _ _ _ _ _ _ _ _ | exact impl_KeptFor.mono _ _ _ _ _ _ _ _ _ _ | exact laws_eqGateway.mono _ _ _ _ _ _ _ _ _ _ _ _ _ _ _ _ _ | exact laws_szGateway.mono _ _ _ _ _ _ _ _ _ _ | exact laws_toGateway.mono _ _ _ _ _ _ _ _ _ | exact spec_KeptFor.mono _ _ _ _ _ _ _ _ _ _ | exact LeO.refl _ | exact LeO.none _ | refine LeO.ite ?_ ?_ | refine LeO.bind ?_ (fun _ => ?_)
theorem laws_FnExactKeptFor.mono : ∀ a0 a1 a2 a3 a4 a5 a6 a7 a8 k, LeO (laws_FnExactKeptFor.f k a0 a1 a2 a3 a4 a5 a6 a7 a8) (laws_FnExactKeptFor.f (k + 1) a0 a1 a2 a3 a4 a5 a6 a7 a8) := by
 intro a0 a1 a2 a3 a4 a5 a6 a7 a8 k
 have ih0 := laws_FnExactKeptFor.mono_l k
 unfold laws_FnExactKeptFor.f
 repeat' with_reducible first | exact ih0 _ _ _ _ _ _ _ _ _ _ _ _ _ _ _ _ _ | exact impl_KeptFor.mono _ _ _ _ _ _ _ _ _ _ | exact laws_eqGateway.mono _ _ _ _ _ _ _ _ _ _ _ _ _ _ _ _ _ | exact laws_szGateway.mono _ _ _ _ _ _ _ _ _ _ | exact laws_toGateway.mono _ _ _ _ _ _ _ _ _ | exact spec_KeptFor.mono _ _ _ _ _ _ _ _ _ _ | exact LeO.refl _ | exact LeO.none _ | refine LeO.ite ?_ ?_ | refine LeO.bind ?_ (fun _ => ?_)
set_option maxHeartbeats 8000000 in
set_option maxRecDepth 100000 in
theorem laws_FnExactKeptFor.calls (k : Nat) (a0_0 : ByteArray) (a0_1 : ByteArray) (a0_2 : Int) (a0_3 : ByteArray) (a0_4 : ByteArray) (a0_5 : Bool) (a0_6 : Int) (A0_7 : Option Addr) (c0_7 : Nat) (l0_7 : List (S52)) (a1 : ByteArray) (r : Bool) (w : World) (hr0_7 : Kd.C k52 w A0_7 l0_7.length l0_7) (hc0_7 : l0_7.length ≤ c0_7) (h : laws_FnExactKeptFor.f k a0_0 a0_1 a0_2 a0_3 a0_4 a0_5 a0_6 l0_7 a1 = some r) (ht : Glob w) :
  Calls Tryz.prog 4 #[.agg #[.string a0_0, .string a0_1, .int .i64 a0_2, .string a0_3, .string a0_4, .bool a0_5, .int .i64 a0_6, .slice A0_7 l0_7.length c0_7], .string a1] w fun e w' => e = .returned (.bool r) ∧ Below w.heap.size w w' := by
 have hu26 := Tryz.underlying26
 have hu32 := Tryz.underlying32
 have HR0_7 := ak hr0_7
 have HC0_7 := ak hc0_7
 clear hr0_7 hc0_7
 have HT := ak ht
 clear ht
 have HB := ak (Below.refl w.heap.size w)
 unfold laws_FnExactKeptFor.f at h; have H := h
 clear h
 by_cases c3 : (a1.size : Int) > 1048576
 ·rw [if_pos c3] at H
  have c3b0 : decide (1048576 < (a1.size : Int)) = true := decide_eq_true c3
  have c3b1 : decide (1048576 < a1.size) = true := decide_eq_true (by omega)
  clear c3
  obtain rfl := Option.some.inj H
  go_enter Tryz.func4, Tryz.ntmps4
  go_wp2_with (first | ((with_reducible refine gd 2 ?_); refine bE 2 #[.string a0_0, .string a0_1, .int .i64 a0_2, .string a0_3, .string a0_4, .bool a0_5, .int .i64 a0_6, .slice A0_7 l0_7.length c0_7] 26 ?_; intro gb546 hg w4 hbox hb; have BK546 := ak hbox; have GW546 := gs hg (bl HB.out); have GE546 := gs hg (bl HB.out); replace HB := ak (below_step (bl HB.out) hb); clear hb hbox hg))
  go_ret
  exact rz (bl1 HB.out GE546.out)
 ·rw [if_neg c3] at H
  have c3b0 : decide (1048576 < (a1.size : Int)) = false := decide_eq_false c3
  have c3b1 : decide (1048576 < a1.size) = false := decide_eq_false (by omega)
  clear c3
  replace H := bs H
  obtain ⟨t547, A5, H⟩ := H
  try dsimp only at H
  by_cases c6 : t547 < 0
  ·rw [if_pos c6] at H
   have c6b0 := decide_eq_true c6
   clear c6
   obtain rfl := Option.some.inj H
   go_enter Tryz.func4, Tryz.ntmps4
   go_wp2_with (first | ((with_reducible refine gd 2 ?_); refine bE 2 #[.string a0_0, .string a0_1, .int .i64 a0_2, .string a0_3, .string a0_4, .bool a0_5, .int .i64 a0_6, .slice A0_7 l0_7.length c0_7] 26 ?_; intro gb546 hg w7 hbox hb; have BK546 := ak hbox; have GW546 := gs hg (bl HB.out); have GE546 := gs hg (bl HB.out); replace HB := ak (below_step (bl HB.out) hb); clear hb hbox hg; obtain ⟨_, _, _, _, _, _, _, _, _, _, _, _, _, _, _, _⟩ := b8 BK546.out) | ((with_reducible refine gc 8 ?_); refine gL 8 Tryz.func8 (some 16) #[.agg #[.string a0_0, .string a0_1, .int .i64 a0_2, .string a0_3, .string a0_4, .bool a0_5, .int .i64 a0_6, .slice A0_7 l0_7.length c0_7], .int .i64 1048576] ?_; (with_reducible refine (laws_szGateway.calls k a0_0 a0_1 a0_2 a0_3 a0_4 a0_5 a0_6 _ _ l0_7 1048576 t547 _ ?side1 ?side2 A5.out).mono ?_); (case side1 => exact kc (Kd.C_below HR0_7.out HB.out)); (case side2 => exact HC0_7.out); rintro e w9 ⟨rfl, hb⟩; refine ⟨_, rfl, ?_⟩; replace BK546 := ak (blk_below (bk BK546.out) hb); replace HB := ak (below_step (bl1 HB.out GE546.out) hb); clear hb))
   go_ret
   exact rz (bl1 HB.out GE546.out)
  ·rw [if_neg c6] at H
   have c6b0 := decide_eq_false c6
   clear c6
   replace H := bs H
   obtain ⟨⟨t548, t549, t550, t551, t552, t553, t554, t555⟩, A10, H⟩ := H
   try dsimp only at H
   replace H := bs H
   obtain ⟨⟨t558, t559⟩, A11, H⟩ := H
   try dsimp only at H
   replace H := bs H
   obtain ⟨⟨t560, t561, t562, t563, t564, t565, t566, t567⟩, A12, H⟩ := H
   try dsimp only at H
   replace H := bs H
   obtain ⟨⟨t571, t572⟩, A13, H⟩ := H
   try dsimp only at H
   have HC14 := ak H
   clear H
   go_enter Tryz.func4, Tryz.ntmps4
   go_upto_region 10 with (first | ((with_reducible refine gd 2 ?_); refine bE 2 #[.string a0_0, .string a0_1, .int .i64 a0_2, .string a0_3, .string a0_4, .bool a0_5, .int .i64 a0_6, .slice A0_7 l0_7.length c0_7] 26 ?_; intro gb546 hg w15 hbox hb; have BK546 := ak hbox; have GW546 := gs hg (bl HB.out); have GE546 := gs hg (bl HB.out); replace HB := ak (below_step (bl HB.out) hb); clear hb hbox hg; obtain ⟨_, _, _, _, _, _, _, _, _, _, _, _, _, _, _, _⟩ := b8 BK546.out) | ((with_reducible refine gc 8 ?_); refine gL 8 Tryz.func8 (some 16) #[.agg #[.string a0_0, .string a0_1, .int .i64 a0_2, .string a0_3, .string a0_4, .bool a0_5, .int .i64 a0_6, .slice A0_7 l0_7.length c0_7], .int .i64 1048576] ?_; (with_reducible refine (laws_szGateway.calls k a0_0 a0_1 a0_2 a0_3 a0_4 a0_5 a0_6 _ _ l0_7 1048576 t547 _ ?side1 ?side2 A5.out).mono ?_); (case side1 => exact kc (Kd.C_below HR0_7.out HB.out)); (case side2 => exact HC0_7.out); rintro e w17 ⟨rfl, hb⟩; refine ⟨_, rfl, ?_⟩; replace BK546 := ak (blk_below (bk BK546.out) hb); replace HB := ak (below_step (bl1 HB.out GE546.out) hb); clear hb; obtain ⟨_, _, _, _, _, _, _, _, _, _, _, _, _, _, _, _⟩ := b8 BK546.out) | ((with_reducible refine gc 10 ?_); refine gL 10 Tryz.func10 (some 21) #[.agg #[.string a0_0, .string a0_1, .int .i64 a0_2, .string a0_3, .string a0_4, .bool a0_5, .int .i64 a0_6, .slice A0_7 l0_7.length c0_7]] ?_; (with_reducible refine (laws_toGateway.calls k a0_0 a0_1 a0_2 a0_3 a0_4 a0_5 a0_6 _ _ l0_7 t548 t549 t550 t551 t552 t553 t554 t555 _ ?side1 ?side2 A10.out).mono ?_); (case side1 => exact kc (Kd.C_below HR0_7.out HB.out)); (case side2 => exact HC0_7.out); rintro e w19 ⟨v556, rfl, ho0, hb⟩; refine ⟨_, rfl, ?_⟩; have HO557 := ak (Kd.S_lower ho0 (below_size (bl1 HB.out GE546.out))); replace BK546 := ak (blk_below (bk BK546.out) hb); replace HB := ak (below_step (bl1 HB.out GE546.out) hb); clear hb ho0; obtain ⟨Ao20, co20, eo20⟩ := Kd.S_slice HO557.out; subst eo20) | ((with_reducible refine gc 13 ?_); refine gL 13 Tryz.func13 (some 23) #[.agg #[.string t548, .string t549, .int .i64 t550, .string t551, .string t552, .bool t553, .int .i64 t554, .slice Ao20 t555.length co20], .string a1] ?_; (with_reducible refine (spec_KeptFor.calls k t548 t549 t550 t551 t552 t553 t554 _ _ t555 a1 t558 t559 _ ?side1 ?side2 A11.out).mono ?_); (case side1 => exact kc (Kd.S_reads' HO557.out).2.2); (case side2 => exact (Kd.S_reads' HO557.out).2.1); rintro e w21 ⟨rfl, hb⟩; refine ⟨_, rfl, ?_⟩; replace HO557 := ak (Kd.S_below (by (with_reducible repeat (first | apply Kd.S_alloc | apply Kd.S_drewN | apply Kd.S_drew)); exact HO557.out) hb); replace BK546 := ak (blk_below (bk BK546.out) hb); replace HB := ak (below_step (bl1 HB.out GE546.out) hb); clear hb; obtain ⟨_, _, _, _, _, _, _, _, _, _, _, _, _, _, _, _⟩ := b8 BK546.out) | ((with_reducible refine gc 10 ?_); refine gL 10 Tryz.func10 (some 27) #[.agg #[.string a0_0, .string a0_1, .int .i64 a0_2, .string a0_3, .string a0_4, .bool a0_5, .int .i64 a0_6, .slice A0_7 l0_7.length c0_7]] ?_; (with_reducible refine (laws_toGateway.calls k a0_0 a0_1 a0_2 a0_3 a0_4 a0_5 a0_6 _ _ l0_7 t560 t561 t562 t563 t564 t565 t566 t567 _ ?side1 ?side2 A12.out).mono ?_); (case side1 => exact kc (Kd.C_below HR0_7.out HB.out)); (case side2 => exact HC0_7.out); rintro e w23 ⟨v568, rfl, ho0, hb⟩; refine ⟨_, rfl, ?_⟩; have HO569 := ak (Kd.S_lower (Kd.S_new' ho0 (Kd.S_lt (by (with_reducible repeat (first | apply Kd.S_alloc | apply Kd.S_drewN | apply Kd.S_drew)); exact HO557.out))) (below_size (bl1 HB.out GE546.out))); replace HO557 := ak (Kd.S_elder' (by (with_reducible repeat (first | apply Kd.S_alloc | apply Kd.S_drewN | apply Kd.S_drew)); exact HO557.out) (Kd.S_base ho0) hb); replace BK546 := ak (blk_below (bk BK546.out) hb); replace HB := ak (below_step (bl1 HB.out GE546.out) hb); clear hb ho0) | ((with_reducible refine gd 8 ?_); refine bE 8 #[.string (⟨#[]⟩ : ByteArray), .string (⟨#[]⟩ : ByteArray), .int .i64 0, .string (⟨#[]⟩ : ByteArray), .string (⟨#[]⟩ : ByteArray), .bool false, .int .i64 0, .slice none 0 0] 32 ?_; intro gb570 hg w24 hbox hb; replace HO557 := ak (Kd.S_below (by (with_reducible repeat (first | apply Kd.S_alloc | apply Kd.S_drewN | apply Kd.S_drew)); exact HO557.out) hb); replace HO569 := ak (Kd.S_below (by (with_reducible repeat (first | apply Kd.S_alloc | apply Kd.S_drewN | apply Kd.S_drew)); exact HO569.out) hb); have BK570 := ak hbox; have GW570 := gs hg (bl1 HB.out GE546.out); have GE570 := gs hg (bl1 HB.out GE546.out); replace HB := ak (below_step (bl1 HB.out GE546.out) hb); have NB546_570 := nl hg BK546.out; have NB570_546 := ng hg BK546.out; replace BK546 := ak (blk_below (bk BK546.out) hb); clear hb hbox hg; have hnb25 := NB570_546.out; have hnc25 := NB546_570.out; obtain ⟨_, _, _, _, _, _, _, _, _, _, _, _, _, _, _, _⟩ := b8 BK570.out; obtain ⟨Ao27, co27, eo27⟩ := Kd.S_slice HO569.out; subst eo27) | ((with_reducible refine gc 14 ?_); refine gL 14 Tryz.func14 (some 31) #[.agg #[.string t560, .string t561, .int .i64 t562, .string t563, .string t564, .bool t565, .int .i64 t566, .slice Ao27 t567.length co27], .string a1] ?_; (with_reducible refine (impl_KeptFor.calls k t560 t561 t562 t563 t564 t565 t566 _ _ t567 a1 t571 t572 _ ?side1 ?side2 A13.out (globg HT.out (bl2 HB.out GE546.out GE570.out))).mono ?_); (case side1 => refine (Kd.S_reads' (e := 61) (base := w.heap.size) (ok := fun k_ => (True ∧ some k_ ≠ (.slice Ao20 t555.length co20 : Value).ownBlock)) (n := t567.length) (c := co27) ?_).2.2; exact (by (with_reducible repeat (first | apply Kd.S_alloc | apply Kd.S_drewN | apply Kd.S_drew)); exact (Kd.S_mono (Kd.S_far (p := ⟨gb570, 7, none⟩) (Kd.S_far (p := ⟨gb570, 6, none⟩) (Kd.S_far (p := ⟨gb570, 5, none⟩) (Kd.S_far (p := ⟨gb570, 4, none⟩) (Kd.S_far (p := ⟨gb570, 3, none⟩) (Kd.S_far (p := ⟨gb570, 2, none⟩) (Kd.S_far (p := ⟨gb570, 1, none⟩) (Kd.S_far (p := ⟨gb570, 0, none⟩) (Kd.S_types HO569.out BK570.out (by decide)) (fun _ hk => hk.2) (.string t560)) (fun _ hk => hk.2) (.string t561)) (fun _ hk => hk.2) (.int .i64 t562)) (fun _ hk => hk.2) (.string t563)) (fun _ hk => hk.2) (.string t564)) (fun _ hk => hk.2) (.bool t565)) (fun _ hk => hk.2) (.int .i64 t566)) (fun _ hk => hk.2) (.slice Ao27 t567.length co27)) (fun _ h_ => h_.1)))); (case side2 => exact (Kd.S_reads' HO569.out).2.1); rintro e w28 ⟨rfl, hb⟩; refine ⟨_, rfl, ?_⟩; replace HO557 := ak (Kd.S_below (by (with_reducible repeat (first | apply Kd.S_alloc | apply Kd.S_drewN | apply Kd.S_drew)); exact (Kd.S_mono (Kd.S_far (p := ⟨gb570, 7, none⟩) (Kd.S_far (p := ⟨gb570, 6, none⟩) (Kd.S_far (p := ⟨gb570, 5, none⟩) (Kd.S_far (p := ⟨gb570, 4, none⟩) (Kd.S_far (p := ⟨gb570, 3, none⟩) (Kd.S_far (p := ⟨gb570, 2, none⟩) (Kd.S_far (p := ⟨gb570, 1, none⟩) (Kd.S_far (p := ⟨gb570, 0, none⟩) (Kd.S_types HO557.out BK570.out (by decide)) (fun _ hk => hk.2) (.string t560)) (fun _ hk => hk.2) (.string t561)) (fun _ hk => hk.2) (.int .i64 t562)) (fun _ hk => hk.2) (.string t563)) (fun _ hk => hk.2) (.string t564)) (fun _ hk => hk.2) (.bool t565)) (fun _ hk => hk.2) (.int .i64 t566)) (fun _ hk => hk.2) (.slice Ao27 t567.length co27)) (fun _ h_ => h_.1))) hb); replace HO569 := ak (Kd.S_below (by (with_reducible repeat (first | apply Kd.S_alloc | apply Kd.S_drewN | apply Kd.S_drew)); exact (Kd.S_mono (Kd.S_far (p := ⟨gb570, 7, none⟩) (Kd.S_far (p := ⟨gb570, 6, none⟩) (Kd.S_far (p := ⟨gb570, 5, none⟩) (Kd.S_far (p := ⟨gb570, 4, none⟩) (Kd.S_far (p := ⟨gb570, 3, none⟩) (Kd.S_far (p := ⟨gb570, 2, none⟩) (Kd.S_far (p := ⟨gb570, 1, none⟩) (Kd.S_far (p := ⟨gb570, 0, none⟩) (Kd.S_types HO569.out BK570.out (by decide)) (fun _ hk => hk.2) (.string t560)) (fun _ hk => hk.2) (.string t561)) (fun _ hk => hk.2) (.int .i64 t562)) (fun _ hk => hk.2) (.string t563)) (fun _ hk => hk.2) (.string t564)) (fun _ hk => hk.2) (.bool t565)) (fun _ hk => hk.2) (.int .i64 t566)) (fun _ hk => hk.2) (.slice Ao27 t567.length co27)) (fun _ h_ => h_.1))) hb); replace BK546 := ak (blk_below (g := gb546) (o := .cells #[.string a0_0, .string a0_1, .int .i64 a0_2, .string a0_3, .string a0_4, .bool a0_5, .int .i64 a0_6, .slice A0_7 l0_7.length c0_7] 26 (0, 0)) (bq BK546.out) hb); replace BK570 := ak (blk_below (g := gb570) (o := .cells #[.string t560, .string t561, .int .i64 t562, .string t563, .string t564, .bool t565, .int .i64 t566, .slice Ao27 t567.length co27] 32 (0, 0)) (bq BK570.out) hb); replace HB := ak (below_step (bl2 HB.out GE546.out GE570.out) hb); clear hb))
   (try simp only [Act.put, List.setIfInBounds_toArray, List.set_cons_zero, List.set_cons_succ])
   go_cut [41] (fun v41 wc => ∃ (kq : Nat) (x41_13 : Bool), v41 = .bool x41_13 ∧ Aside0 (laws_FnExactKeptFor.j0 kq x41_13 a0_0 a0_1 a0_2 a0_3 a0_4 a0_5 a0_6 l0_7 t560 t561 t562 t563 t564 t565 t566 t567 = some r) ∧ Aside0 (kq ≤ k) ∧ Aside0 (Kd.S k61 61 wc w.heap.size (fun _ => True) (.slice Ao27 t567.length co27) t567) ∧ Aside0 (wc.heap[gb546]? = some (.cells #[.string a0_0, .string a0_1, .int .i64 a0_2, .string a0_3, .string a0_4, .bool a0_5, .int .i64 a0_6, (.slice A0_7 l0_7.length c0_7)] 26 (0, 0))) ∧ Aside0 (wc.heap[gb570]? = some (.cells #[.string t560, .string t561, .int .i64 t562, .string t563, .string t564, .bool t565, .int .i64 t566, (.slice Ao27 t567.length co27)] 32 (0, 0))) ∧ Aside0 (Below w.heap.size w wc))
   case first =>
    have H := HC14.out
    clear HC14
    by_cases c29 : t571 = t558
    ·rw [if_pos c29] at H
     have c29b0 : (t571 == t558) = true := beq_iff_eq.mpr c29
     have c29b1 : (t571 != t558) = false := bne_eq_false_iff_eq.mpr c29
     clear c29
     (first | rw [c29b0] | (simp only [i64_w, i32_w]; rw [c29b0]) | skip)
     have H' := ak H
     clear H
     go_wp2
     go_meet
     case rel => exact ⟨_, ((t572 != t559)), (by first | rfl | (simp; done) | (simp [*]; done)), H', ⟨by first | omega | exact Nat.le_refl _⟩, ⟨by (with_reducible repeat (first | apply Kd.S_alloc | apply Kd.S_drewN | apply Kd.S_drew)); exact Kd.S_mono HO569.out (fun _ hk => trivial)⟩, ⟨bk BK546.out⟩, ⟨bk BK570.out⟩, ⟨bl2 HB.out GE546.out GE570.out⟩⟩
    ·rw [if_neg c29] at H
     have c29b0 : (t571 == t558) = false := beq_eq_false_iff_ne.mpr c29
     have c29b1 : (t571 != t558) = true := bne_iff_ne.mpr c29
     (first | rw [c29b0] | (simp only [i64_w, i32_w]; rw [c29b0]) | skip)
     have H' := ak H
     clear H
     go_wp2
     go_meet
     case rel => exact ⟨_, (true), (by first | rfl | (simp; done) | (simp [*]; done)), H', ⟨by first | omega | exact Nat.le_refl _⟩, ⟨by (with_reducible repeat (first | apply Kd.S_alloc | apply Kd.S_drewN | apply Kd.S_drew)); exact Kd.S_mono HO569.out (fun _ hk => trivial)⟩, ⟨bk BK546.out⟩, ⟨bk BK570.out⟩, ⟨bl2 HB.out GE546.out GE570.out⟩⟩
   case rest =>
    clear HC14
    try clear c1
    try clear c2
    try clear p2
    try clear c3
    try clear c3b0
    try clear c3b1
    try clear c4
    try clear c6
    try clear c6b0
    try clear c8
    try clear c10
    try clear c13
    try clear c14
    try clear c25
    try clear c29
    try clear c29b0
    try clear c29b1
    try clear hcz16_0
    try clear hcz16_1
    try clear hcz16_2
    try clear hcz16_3
    try clear hcz16_4
    try clear hcz16_5
    try clear hcz16_6
    try clear hcz16_7
    try clear hcz18_0
    try clear hcz18_1
    try clear hcz18_2
    try clear hcz18_3
    try clear hcz18_4
    try clear hcz18_5
    try clear hcz18_6
    try clear hcz18_7
    try clear hcz22_0
    try clear hcz22_1
    try clear hcz22_2
    try clear hcz22_3
    try clear hcz22_4
    try clear hcz22_5
    try clear hcz22_6
    try clear hcz22_7
    try clear hcz26_0
    try clear hcz26_1
    try clear hcz26_2
    try clear hcz26_3
    try clear hcz26_4
    try clear hcz26_5
    try clear hcz26_6
    try clear hcz26_7
    try clear hcz8_0
    try clear hcz8_1
    try clear hcz8_2
    try clear hcz8_3
    try clear hcz8_4
    try clear hcz8_5
    try clear hcz8_6
    try clear hcz8_7
    try clear hfz16_0
    try clear hfz16_1
    try clear hfz16_2
    try clear hfz16_3
    try clear hfz16_4
    try clear hfz16_5
    try clear hfz16_6
    try clear hfz16_7
    try clear hfz18_0
    try clear hfz18_1
    try clear hfz18_2
    try clear hfz18_3
    try clear hfz18_4
    try clear hfz18_5
    try clear hfz18_6
    try clear hfz18_7
    try clear hfz22_0
    try clear hfz22_1
    try clear hfz22_2
    try clear hfz22_3
    try clear hfz22_4
    try clear hfz22_5
    try clear hfz22_6
    try clear hfz22_7
    try clear hfz26_0
    try clear hfz26_1
    try clear hfz26_2
    try clear hfz26_3
    try clear hfz26_4
    try clear hfz26_5
    try clear hfz26_6
    try clear hfz26_7
    try clear hfz8_0
    try clear hfz8_1
    try clear hfz8_2
    try clear hfz8_3
    try clear hfz8_4
    try clear hfz8_5
    try clear hfz8_6
    try clear hfz8_7
    obtain ⟨kq, x41_13, rfl, HA, HJ13, HO_571007, BK546, BK570, HB⟩ := hcut
    cases kq with
    | zero => exact absurd HA.out (by simp [laws_FnExactKeptFor.j0])
    | succ kj13 =>
     have H := HA.out
     clear HA
     simp only [laws_FnExactKeptFor.j0] at H
     by_cases c30 : x41_13 = true
     ·subst c30
      rw [if_pos rfl] at H
      exact absurd H (by simp)
     ·replace c30 := Bool.eq_false_iff.mpr c30
      subst c30
      rw [if_neg ff] at H
      replace H := bs H
      obtain ⟨⟨t573, t574, t575, t576, t577, t578, t579, t580⟩, A31, H⟩ := H
      try dsimp only at H
      replace H := bs H
      obtain ⟨t583, A32, H⟩ := H
      try dsimp only at H
      by_cases c33 : t583 = true
      ·subst c33
       rw [if_pos rfl] at H
       obtain rfl := Option.some.inj H
       try go_wp2
       replace HO_571007 := ak (Kd.S_drew HO_571007.out)
       replace BK546 := ak (blk_drew BK546.out)
       replace BK570 := ak (blk_drew BK570.out)
       replace HB := ak (below_drew1 HB.out)
       refine start_ (n := 5) (S := fun w' => w'.cell? ⟨gb570, 0, none⟩ = some (.string t560) ∧ w'.cell? ⟨gb570, 1, none⟩ = some (.string t561) ∧ w'.cell? ⟨gb570, 2, none⟩ = some (.int .i64 t562) ∧ w'.cell? ⟨gb570, 3, none⟩ = some (.string t563) ∧ w'.cell? ⟨gb570, 4, none⟩ = some (.string t564) ∧ w'.cell? ⟨gb570, 5, none⟩ = some (.bool t565) ∧ w'.cell? ⟨gb570, 6, none⟩ = some (.int .i64 t566) ∧ w'.cell? ⟨gb570, 7, none⟩ = some (.slice Ao27 t567.length co27) ∧ w'.cell? ⟨gb546, 0, none⟩ = some (.string a0_0) ∧ w'.cell? ⟨gb546, 1, none⟩ = some (.string a0_1) ∧ w'.cell? ⟨gb546, 2, none⟩ = some (.int .i64 a0_2) ∧ w'.cell? ⟨gb546, 3, none⟩ = some (.string a0_3) ∧ w'.cell? ⟨gb546, 4, none⟩ = some (.string a0_4) ∧ w'.cell? ⟨gb546, 5, none⟩ = some (.bool a0_5) ∧ w'.cell? ⟨gb546, 6, none⟩ = some (.int .i64 a0_6) ∧ w'.cell? ⟨gb546, 7, none⟩ = some (.slice A0_7 l0_7.length c0_7)) (ds := []) #[false, false, false, false, false] (by kernel_rfl) rfl rfl ⟨bc0 BK570.out, bc1 BK570.out, bc2 BK570.out, bc3 BK570.out, bc4 BK570.out, bc5 BK570.out, bc6 BK570.out, bc7 BK570.out, bc0 BK546.out, bc1 BK546.out, bc2 BK546.out, bc3 BK546.out, bc4 BK546.out, bc5 BK546.out, bc6 BK546.out, bc7 BK546.out⟩ (fun hHeld => ?_)
       generalize wc.drew = w34 at HO_571007 BK546 BK570 HB hHeld ⊢
       refine take_ (i := 0) (N := some 42) (v := ?_) (a' := ?_) #[true, false, false, false, false] rfl rfl (by kernel_rfl) (fun _ _ _ h => h) (Or.inl ⟨by rfl, ?_⟩) hHeld ?_ ?_
       rotate_left
       ·rintro w' ⟨s0, s1, s2, s3, s4, s5, s6, s7, s8, s9, s10, s11, s12, s13, s14, s15⟩
        go_simp
        with_reducible rfl
       rotate_left
       ·simp only [Act.put, List.setIfInBounds_toArray, List.set_cons_zero, List.set_cons_succ, i64_w, i32_w]
        rfl
       refine take_ (i := 1) (N := some 43) (v := ?_) (a' := ?_) #[true, true, false, false, false] rfl rfl (by kernel_rfl) (fun _ _ _ h => h) (Or.inl ⟨by rfl, ?_⟩) hHeld ?_ ?_
       rotate_left
       ·rintro w' ⟨s0, s1, s2, s3, s4, s5, s6, s7, s8, s9, s10, s11, s12, s13, s14, s15⟩
        go_simp
        with_reducible rfl
       rotate_left
       ·simp only [Act.put, List.setIfInBounds_toArray, List.set_cons_zero, List.set_cons_succ, i64_w, i32_w]
        rfl
       refine one_ (i := 2) (N := some 44) #[true, true, true, false, false] rfl rfl (by kernel_rfl) (by decide) (fun K hK => ?_)
       refine gO Tryz.func10 #[.agg #[.string a0_0, .string a0_1, .int .i64 a0_2, .string a0_3, .string a0_4, .bool a0_5, .int .i64 a0_6, .slice A0_7 l0_7.length c0_7]] ?_
       with_reducible refine (laws_toGateway.calls kj13 a0_0 a0_1 a0_2 a0_3 a0_4 a0_5 a0_6 _ _ l0_7 t573 t574 t575 t576 t577 t578 t579 t580 _ ?side1 ?side2 A31.out).mono ?_
       (case side1 => exact kc (Kd.C_below HR0_7.out HB.out))
       (case side2 => exact HC0_7.out)
       rintro e w35 ⟨v581, rfl, ho0, hb⟩
       refine ⟨_, rfl, ?_⟩
       have HO582 := ak (Kd.S_lower (Kd.S_new' ho0 (Kd.S_lt (by (with_reducible repeat (first | apply Kd.S_alloc | apply Kd.S_drewN | apply Kd.S_drew)); exact HO_571007.out))) (below_size (bl2 HB.out GE546.out GE570.out)))
       replace HO_571007 := ak (Kd.S_elder' (by (with_reducible repeat (first | apply Kd.S_alloc | apply Kd.S_drewN | apply Kd.S_drew)); exact HO_571007.out) (Kd.S_base ho0) hb)
       replace BK546 := ak (blk_below (bk BK546.out) hb)
       replace BK570 := ak (blk_below (bk BK570.out) hb)
       replace HB := ak (below_step (bl2 HB.out GE546.out GE570.out) hb)
       clear hb
       clear ho0
       obtain ⟨Ao36, co36, eo36⟩ := Kd.S_slice HO582.out
       (first | subst eo36 | (injection eo36 with f1_ f2_ f3_; have f4_ := f1_.symm; have f5_ := f3_.symm; clear f1_ f2_ f3_; subst f4_; subst f5_))
       refine hK.out _ _ ⟨bc0 BK570.out, bc1 BK570.out, bc2 BK570.out, bc3 BK570.out, bc4 BK570.out, bc5 BK570.out, bc6 BK570.out, bc7 BK570.out, bc0 BK546.out, bc1 BK546.out, bc2 BK546.out, bc3 BK546.out, bc4 BK546.out, bc5 BK546.out, bc6 BK546.out, bc7 BK546.out⟩ (fun hHeld => ?_)
       clear hK K
       refine nr (some 44) ?_
       refine one_ (i := 3) (N := some 45) #[true, true, true, true, false] rfl rfl (by kernel_rfl) (by decide) (fun K hK => ?_)
       refine gO Tryz.func12 #[.agg #[.string t560, .string t561, .int .i64 t562, .string t563, .string t564, .bool t565, .int .i64 t566, .slice Ao27 t567.length co27], .agg #[.string t573, .string t574, .int .i64 t575, .string t576, .string t577, .bool t578, .int .i64 t579, .slice Ao36 t580.length co36]] ?_
       with_reducible refine (laws_eqGateway.calls kj13 t560 t561 t562 t563 t564 t565 t566 _ _ t567 t573 t574 t575 t576 t577 t578 t579 _ _ t580 true _ ?side1 ?side2 ?side3 ?side4 A32.out).mono ?_
       (case side1 => exact kc (Kd.S_reads' HO_571007.out).2.2)
       (case side2 => exact (Kd.S_reads' HO_571007.out).2.1)
       (case side3 => exact kc (Kd.S_reads' HO582.out).2.2)
       (case side4 => exact (Kd.S_reads' HO582.out).2.1)
       rintro e w37 ⟨rfl, hb⟩
       refine ⟨_, rfl, ?_⟩
       replace HO_571007 := ak (Kd.S_below (by (with_reducible repeat (first | apply Kd.S_alloc | apply Kd.S_drewN | apply Kd.S_drew)); exact HO_571007.out) hb)
       replace HO582 := ak (Kd.S_below (by (with_reducible repeat (first | apply Kd.S_alloc | apply Kd.S_drewN | apply Kd.S_drew)); exact HO582.out) hb)
       replace BK546 := ak (blk_below (bk BK546.out) hb)
       replace BK570 := ak (blk_below (bk BK570.out) hb)
       replace HB := ak (below_step (bl2 HB.out GE546.out GE570.out) hb)
       clear hb
       refine hK.out _ _ ⟨bc0 BK570.out, bc1 BK570.out, bc2 BK570.out, bc3 BK570.out, bc4 BK570.out, bc5 BK570.out, bc6 BK570.out, bc7 BK570.out, bc0 BK546.out, bc1 BK546.out, bc2 BK546.out, bc3 BK546.out, bc4 BK546.out, bc5 BK546.out, bc6 BK546.out, bc7 BK546.out⟩ (fun hHeld => ?_)
       clear hK K
       refine nr (some 45) ?_
       refine pure_ (i := 4) (N := some 46) (v := ?_) (a' := ?_) #[true, true, true, true, true] rfl rfl (by kernel_rfl) (fun _ _ _ h => h) (Or.inl ⟨by rfl, ?_⟩) ?_ ?_
       rotate_left
       ·intro w'
        go_simp
        with_reducible rfl
       rotate_left
       ·simp only [Act.put, List.setIfInBounds_toArray, List.set_cons_zero, List.set_cons_succ, i64_w, i32_w]
        rfl
       refine done_ (by kernel_rfl) ?_
       try go_wp2
       go_ret
       exact rz (bl2 HB.out GE546.out GE570.out)
      ·replace c33 := Bool.eq_false_iff.mpr c33
       subst c33
       rw [if_neg ff] at H
       exact absurd H (by simp)

def wf23 (x : S23) : Prop := x.f0.size ≤ 140737488351232 ∧ x.f1.size ≤ 140737488351232 ∧ (Lit.int .i64 x.f2).wf = true ∧ x.f3.size ≤ 140737488351232 ∧ x.f4.size ≤ 140737488351232 ∧ True
theorem op23 : Opens Tryz.prog 23 k23 wf23 := Opens.struct (d := (Kd.pair Kd.string (Kd.pair Kd.string (Kd.pair (Kd.int .i64) (Kd.pair Kd.string (Kd.pair Kd.string Kd.bool)))))) (fun x : S23 => (x.f0, x.f1, x.f2, x.f3, x.f4, x.f5)) (fun p => (⟨p.1, p.2.1, p.2.2.1, p.2.2.2.1, p.2.2.2.2.1, p.2.2.2.2.2⟩ : S23)) (fun _ => rfl) Tryz.underlying23 (by kernel_rfl) (OpensL.cons rfl (by kernel_rfl) (Opens.string Tryz.underlying9) (OpensL.cons rfl (by kernel_rfl) (Opens.string Tryz.underlying9) (OpensL.cons rfl (by kernel_rfl) (Opens.int Tryz.underlying3) (OpensL.cons rfl (by kernel_rfl) (Opens.string Tryz.underlying9) (OpensL.cons rfl (by kernel_rfl) (Opens.string Tryz.underlying9) (OpensL.last rfl (by kernel_rfl) (Opens.bool Tryz.underlying4)))))))
def wf122 (x : S122) : Prop := x.f0.size ≤ 140737488351232 ∧ x.f1.size ≤ 140737488351232
theorem op122 : Opens Tryz.prog 122 k122 wf122 := Opens.struct (d := (Kd.pair Kd.string Kd.string)) (fun x : S122 => (x.f0, x.f1)) (fun p => (⟨p.1, p.2⟩ : S122)) (fun _ => rfl) Tryz.underlying122 (by kernel_rfl) (OpensL.cons rfl (by kernel_rfl) (Opens.string Tryz.underlying9) (OpensL.last rfl (by kernel_rfl) (Opens.string Tryz.underlying9)))
def wf48 (x : S48) : Prop := (Lit.int .i64 x.f0).wf = true ∧ x.f1.size ≤ 140737488351232 ∧ (x.f2.length * 32 ≤ 140737488351232 ∧ ∀ y584 ∈ x.f2, wf122 y584) ∧ x.f3.size ≤ 140737488351232
theorem op48 : Opens Tryz.prog 48 k48 wf48 := Opens.struct (d := (Kd.pair (Kd.int .i64) (Kd.pair Kd.string (Kd.pair (Kd.slice 122 k122) Kd.string)))) (fun x : S48 => (x.f0, x.f1, x.f2, x.f3)) (fun p => (⟨p.1, p.2.1, p.2.2.1, p.2.2.2⟩ : S48)) (fun _ => rfl) Tryz.underlying48 (by kernel_rfl) (OpensL.cons rfl (by kernel_rfl) (Opens.int Tryz.underlying3) (OpensL.cons rfl (by kernel_rfl) (Opens.string Tryz.underlying9) (OpensL.cons rfl (by kernel_rfl) (Opens.slice Tryz.underlying46 (by kernel_rfl) (by kernel_rfl) op122) (OpensL.last rfl (by kernel_rfl) (Opens.string Tryz.underlying9)))))
def wf50 (x : S50) : Prop := wf48 x.f0 ∧ (Lit.int .i64 x.f1).wf = true ∧ (Lit.int .i64 x.f2).wf = true
theorem op50 : Opens Tryz.prog 50 k50 wf50 := Opens.struct (d := (Kd.pair k48 (Kd.pair (Kd.int .i64) (Kd.int .i64)))) (fun x : S50 => (x.f0, x.f1, x.f2)) (fun p => (⟨p.1, p.2.1, p.2.2⟩ : S50)) (fun _ => rfl) Tryz.underlying50 (by kernel_rfl) (OpensL.cons rfl (by kernel_rfl) op48 (OpensL.cons rfl (by kernel_rfl) (Opens.int Tryz.underlying3) (OpensL.last rfl (by kernel_rfl) (Opens.int Tryz.underlying3))))
def wf52 (x : S52) : Prop := x.f0.size ≤ 140737488351232 ∧ (x.f1.length * 32 ≤ 140737488351232 ∧ ∀ y585 ∈ x.f1, wf122 y585) ∧ wf50 x.f2
theorem op52 : Opens Tryz.prog 52 k52 wf52 := Opens.struct (d := (Kd.pair Kd.string (Kd.pair (Kd.slice 122 k122) k50))) (fun x : S52 => (x.f0, x.f1, x.f2)) (fun p => (⟨p.1, p.2.1, p.2.2⟩ : S52)) (fun _ => rfl) Tryz.underlying52 (by kernel_rfl) (OpensL.cons rfl (by kernel_rfl) (Opens.string Tryz.underlying9) (OpensL.cons rfl (by kernel_rfl) (Opens.slice Tryz.underlying46 (by kernel_rfl) (by kernel_rfl) op122) (OpensL.last rfl (by kernel_rfl) op50)))
def wf26 (x : S26) : Prop := wf23 x.f0 ∧ (Lit.int .i64 x.f1).wf = true ∧ (x.f2.length * 120 ≤ 140737488351232 ∧ ∀ y586 ∈ x.f2, wf52 y586)
theorem op26 : Opens Tryz.prog 26 k26 wf26 := Opens.struct (d := (Kd.pair k23 (Kd.pair (Kd.int .i64) (Kd.slice 52 k52)))) (fun x : S26 => (x.f0, x.f1, x.f2)) (fun p => (⟨p.1, p.2.1, p.2.2⟩ : S26)) (fun _ => rfl) Tryz.underlying26 (by kernel_rfl) (OpensL.cons rfl (by kernel_rfl) op23 (OpensL.cons rfl (by kernel_rfl) (Opens.int Tryz.underlying3) (OpensL.last rfl (by kernel_rfl) (Opens.slice Tryz.underlying24 (by kernel_rfl) (by kernel_rfl) op52))))
/-- THE ONE PURE STATEMENT of laws_FnExactKeptFor: yours. -/
def laws_FnExactKeptFor.Pure : Prop := ∀ (x0 : S26) (a1 : ByteArray), wf26 x0 → a1.size ≤ 140737488351232 → ∃ k, laws_FnExactKeptFor.f k x0.f0.f0 x0.f0.f1 x0.f0.f2 x0.f0.f3 x0.f0.f4 x0.f0.f5 x0.f1 x0.f2 a1 = some true
set_option maxRecDepth 100000 in
theorem laws_FnExactKeptFor.walk (P : laws_FnExactKeptFor.Pure) (x0 : S26) (cs0 : Array Value) (a1 : ByteArray) (w : World) (hk0 : k26.K w x0 cs0.toList) (w0 : wf26 x0) (w1 : a1.size ≤ 140737488351232) (ht : Glob w) :
  Calls Tryz.prog 4 #[.agg cs0, .string a1] w fun e w' => e = .returned (.bool true) ∧ Below w.heap.size w w' := by
 obtain ⟨A0_7, c0_7, e0, hl0_7, hr0_7⟩ := k26_open hk0
 obtain rfl : cs0 = #[.string x0.f0.f0, .string x0.f0.f1, .int .i64 x0.f0.f2, .string x0.f0.f3, .string x0.f0.f4, .bool x0.f0.f5, .int .i64 x0.f1, .slice A0_7 x0.f2.length c0_7] := by rw [← Array.toArray_toList (xs := cs0), e0]
 obtain ⟨k, h⟩ := P x0 a1 w0 w1
 refine (laws_FnExactKeptFor.calls k x0.f0.f0 x0.f0.f1 x0.f0.f2 x0.f0.f3 x0.f0.f4 x0.f0.f5 x0.f1 _ _ x0.f2 a1 true w hr0_7 hl0_7 h ht).mono ?_
 rintro e w' ⟨rfl, hd⟩
 exact ⟨rfl, hd⟩

end Go.Proofs.YtlmnmakkojgfnaaGreatDoor.PFnExactKeptFor
