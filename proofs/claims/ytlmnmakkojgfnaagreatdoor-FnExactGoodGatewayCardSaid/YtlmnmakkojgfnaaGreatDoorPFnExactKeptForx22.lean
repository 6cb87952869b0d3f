-- written by a program of this session (wip/tool)
import Derived.Test.YtlmnmakkojgfnaaGreatDoorPFnExactKeptForx0
import Derived.Test.YtlmnmakkojgfnaaGreatDoorPFnExactKeptForx1
import Derived.Test.YtlmnmakkojgfnaaGreatDoorPFnExactKeptForx2
import Derived.Test.YtlmnmakkojgfnaaGreatDoorPFnExactKeptForx3
import Derived.Test.YtlmnmakkojgfnaaGreatDoorPFnExactKeptForx12
import Derived.Test.YtlmnmakkojgfnaaGreatDoorPFnExactKeptForx19
import Derived.Test.YtlmnmakkojgfnaaGreatDoorVOwn0
import Derived.Test.YtlmnmakkojgfnaaGreatDoorVOwnOpen
import Derived.WalkKit
import Derived.BigCall
import Derived.Test.YtlmnmakkojgfnaaGreatDoorOwnTr
import Derived.Test.YtlmnmakkojgfnaaGreatDoorVOwnShort
import Derived.Test.YtlmnmakkojgfnaaGreatDoorOwnSq
import Derived.Test.YtlmnmakkojgfnaaGreatDoorOwnIt
namespace Go.Proofs.YtlmnmakkojgfnaaGreatDoor.PFnExactKeptFor
open Go.RowKit Go.Proofs.YtlmnmakkojgfnaaGreatDoorW.PrintWords Go.Proofs.YtlmnmakkojgfnaaGreatDoorW.PrintLast Go.Proofs.YtlmnmakkojgfnaaGreatDoorW.PrintMore Go.Shelf Go.Proofs.YtlmnmakkojgfnaaGreatDoorOwn
attribute [local go_sem] max2_int min2_int max_two min_two max_three min_three max_four min_four   -- for this text's walks alone
set_option linter.unusedVariables false
set_option linter.unusedSimpArgs false

/-! ### laws_FnExactGoodGateway: function 3 -/
def laws_FnExactGoodGateway.f (k : Nat) (a0_0 : ByteArray) (a0_1 : ByteArray) (a0_2 : Int) (a0_3 : ByteArray) (a0_4 : ByteArray) (a0_5 : Bool) (a0_6 : Int) (l0_7 : List (S52)) : Option (Bool) := (laws_szGateway.f k a0_0 a0_1 a0_2 a0_3 a0_4 a0_5 a0_6 l0_7 1048576).bind fun t503 => (if t503 < 0 then (some true) else ((laws_toGateway.f k a0_0 a0_1 a0_2 a0_3 a0_4 a0_5 a0_6 l0_7).bind fun bt504 => ((spec_GoodGateway.f k bt504.1 bt504.2.1 bt504.2.2.1 bt504.2.2.2.1 bt504.2.2.2.2.1 bt504.2.2.2.2.2.1 bt504.2.2.2.2.2.2.1 bt504.2.2.2.2.2.2.2).bind fun t514 => ((laws_toGateway.f k a0_0 a0_1 a0_2 a0_3 a0_4 a0_5 a0_6 l0_7).bind fun bt515 => ((impl_GoodGateway.f k bt515.1 bt515.2.1 bt515.2.2.1 bt515.2.2.2.1 bt515.2.2.2.2.1 bt515.2.2.2.2.2.1 bt515.2.2.2.2.2.2.1 bt515.2.2.2.2.2.2.2).bind fun t526 => (if (t526 != t514) = true then (none) else ((laws_toGateway.f k a0_0 a0_1 a0_2 a0_3 a0_4 a0_5 a0_6 l0_7).bind fun bt527 => ((laws_eqGateway.f k bt515.1 bt515.2.1 bt515.2.2.1 bt515.2.2.2.1 bt515.2.2.2.2.1 bt515.2.2.2.2.2.1 bt515.2.2.2.2.2.2.1 bt515.2.2.2.2.2.2.2 bt527.1 bt527.2.1 bt527.2.2.1 bt527.2.2.2.1 bt527.2.2.2.2.1 bt527.2.2.2.2.2.1 bt527.2.2.2.2.2.2.1 bt527.2.2.2.2.2.2.2).bind fun t537 => (if t537 = true then (some true) else (none))))))))))
theorem laws_FnExactGoodGateway.mono : ∀ a0 a1 a2 a3 a4 a5 a6 a7 k, LeO (laws_FnExactGoodGateway.f k a0 a1 a2 a3 a4 a5 a6 a7) (laws_FnExactGoodGateway.f (k + 1) a0 a1 a2 a3 a4 a5 a6 a7) := by
 intro a0 a1 a2 a3 a4 a5 a6 a7 k
 unfold laws_FnExactGoodGateway.f
 repeat' with_reducible first | exact impl_GoodGateway.mono _ _ _ _ _ _ _ _ _ | exact laws_eqGateway.mono _ _ _ _ _ _ _ _ _ _ _ _ _ _ _ _ _ | exact laws_szGateway.mono _ _ _ _ _ _ _ _ _ _ | exact laws_toGateway.mono _ _ _ _ _ _ _ _ _ | exact spec_GoodGateway.mono _ _ _ _ _ _ _ _ _ | exact LeO.refl _ | exact LeO.none _ | refine LeO.ite ?_ ?_ | refine LeO.bind ?_ (fun _ => ?_)
set_option maxHeartbeats 8000000 in
set_option maxRecDepth 100000 in
theorem laws_FnExactGoodGateway.calls (k : Nat) (a0_0 : ByteArray) (a0_1 : ByteArray) (a0_2 : Int) (a0_3 : ByteArray) (a0_4 : ByteArray) (a0_5 : Bool) (a0_6 : Int) (A0_7 : Option Addr) (c0_7 : Nat) (l0_7 : List (S52)) (r : Bool) (w : World) (hr0_7 : Kd.C k52 w A0_7 l0_7.length l0_7) (hc0_7 : l0_7.length ≤ c0_7) (h : laws_FnExactGoodGateway.f k a0_0 a0_1 a0_2 a0_3 a0_4 a0_5 a0_6 l0_7 = some r) (ht : Glob w) :
  Calls Tryz.prog 3 #[.agg #[.string a0_0, .string a0_1, .int .i64 a0_2, .string a0_3, .string a0_4, .bool a0_5, .int .i64 a0_6, .slice A0_7 l0_7.length c0_7]] w fun e w' => e = .returned (.bool r) ∧ Below w.heap.size w w' := by
 have hu26 := Tryz.underlying26
 have hu32 := Tryz.underlying32
 have HR0_7 := ak hr0_7
 have HC0_7 := ak hc0_7
 clear hr0_7 hc0_7
 have HT := ak ht
 clear ht
 have HB := ak (Below.refl w.heap.size w)
 unfold laws_FnExactGoodGateway.f at h; have H := h
 clear h
 replace H := bs H
 obtain ⟨t503, A2, H⟩ := H
 try dsimp only at H
 by_cases c3 : t503 < 0
 ·rw [if_pos c3] at H
  have c3b0 := decide_eq_true c3
  clear c3
  obtain rfl := Option.some.inj H
  go_enter Tryz.func3, Tryz.ntmps3
  go_wp2_with (first | ((with_reducible refine gd 1 ?_); refine bE 1 #[.string a0_0, .string a0_1, .int .i64 a0_2, .string a0_3, .string a0_4, .bool a0_5, .int .i64 a0_6, .slice A0_7 l0_7.length c0_7] 26 ?_; intro gb502 hg w4 hbox hb; have BK502 := ak hbox; have GW502 := gs hg (bl HB.out); have GE502 := gs hg (bl HB.out); replace HB := ak (below_step (bl HB.out) hb); clear hb hbox hg; obtain ⟨_, _, _, _, _, _, _, _, _, _, _, _, _, _, _, _⟩ := b8 BK502.out) | ((with_reducible refine gc 8 ?_); refine gL 8 Tryz.func8 (some 9) #[.agg #[.string a0_0, .string a0_1, .int .i64 a0_2, .string a0_3, .string a0_4, .bool a0_5, .int .i64 a0_6, .slice A0_7 l0_7.length c0_7], .int .i64 1048576] ?_; (with_reducible refine (laws_szGateway.calls k a0_0 a0_1 a0_2 a0_3 a0_4 a0_5 a0_6 _ _ l0_7 1048576 t503 _ ?side1 ?side2 A2.out).mono ?_); (case side1 => exact kc (Kd.C_below HR0_7.out HB.out)); (case side2 => exact HC0_7.out); rintro e w6 ⟨rfl, hb⟩; refine ⟨_, rfl, ?_⟩; replace BK502 := ak (blk_below (bk BK502.out) hb); replace HB := ak (below_step (bl1 HB.out GE502.out) hb); clear hb))
  go_ret
  exact rz (bl1 HB.out GE502.out)
 ·rw [if_neg c3] at H
  have c3b0 := decide_eq_false c3
  clear c3
  replace H := bs H
  obtain ⟨⟨t504, t505, t506, t507, t508, t509, t510, t511⟩, A7, H⟩ := H
  try dsimp only at H
  replace H := bs H
  obtain ⟨t514, A8, H⟩ := H
  try dsimp only at H
  replace H := bs H
  obtain ⟨⟨t515, t516, t517, t518, t519, t520, t521, t522⟩, A9, H⟩ := H
  try dsimp only at H
  replace H := bs H
  obtain ⟨t526, A10, H⟩ := H
  try dsimp only at H
  by_cases c11 : (t526 != t514) = true
  ·rw [if_pos c11] at H
   exact absurd H (by simp)
  ·rw [if_neg c11] at H
   have c11b0 : (t526 != t514) = false := by simpa using c11
   (try (have c11b1 : decide (t526 = t514) = true := by simpa using c11))
   (try (have c11b2 : (t526 == t514) = true := by simpa using c11))
   clear c11
   replace H := bs H
   obtain ⟨⟨t527, t528, t529, t530, t531, t532, t533, t534⟩, A12, H⟩ := H
   try dsimp only at H
   replace H := bs H
   obtain ⟨t537, A13, H⟩ := H
   try dsimp only at H
   by_cases c14 : t537 = true
   ·subst c14
    rw [if_pos rfl] at H
    obtain rfl := Option.some.inj H
    go_enter Tryz.func3, Tryz.ntmps3
    try go_wp2_with (first | ((with_reducible refine gd 1 ?_); refine bE 1 #[.string a0_0, .string a0_1, .int .i64 a0_2, .string a0_3, .string a0_4, .bool a0_5, .int .i64 a0_6, .slice A0_7 l0_7.length c0_7] 26 ?_; intro gb502 hg w15 hbox hb; have BK502 := ak hbox; have GW502 := gs hg (bl HB.out); have GE502 := gs hg (bl HB.out); replace HB := ak (below_step (bl HB.out) hb); clear hb hbox hg; obtain ⟨_, _, _, _, _, _, _, _, _, _, _, _, _, _, _, _⟩ := b8 BK502.out) | ((with_reducible refine gc 8 ?_); refine gL 8 Tryz.func8 (some 9) #[.agg #[.string a0_0, .string a0_1, .int .i64 a0_2, .string a0_3, .string a0_4, .bool a0_5, .int .i64 a0_6, .slice A0_7 l0_7.length c0_7], .int .i64 1048576] ?_; (with_reducible refine (laws_szGateway.calls k a0_0 a0_1 a0_2 a0_3 a0_4 a0_5 a0_6 _ _ l0_7 1048576 t503 _ ?side1 ?side2 A2.out).mono ?_); (case side1 => exact kc (Kd.C_below HR0_7.out HB.out)); (case side2 => exact HC0_7.out); rintro e w17 ⟨rfl, hb⟩; refine ⟨_, rfl, ?_⟩; replace BK502 := ak (blk_below (bk BK502.out) hb); replace HB := ak (below_step (bl1 HB.out GE502.out) hb); clear hb; obtain ⟨_, _, _, _, _, _, _, _, _, _, _, _, _, _, _, _⟩ := b8 BK502.out) | ((with_reducible refine gc 10 ?_); refine gL 10 Tryz.func10 (some 13) #[.agg #[.string a0_0, .string a0_1, .int .i64 a0_2, .string a0_3, .string a0_4, .bool a0_5, .int .i64 a0_6, .slice A0_7 l0_7.length c0_7]] ?_; (with_reducible refine (laws_toGateway.calls k a0_0 a0_1 a0_2 a0_3 a0_4 a0_5 a0_6 _ _ l0_7 t504 t505 t506 t507 t508 t509 t510 t511 _ ?side1 ?side2 A7.out).mono ?_); (case side1 => exact kc (Kd.C_below HR0_7.out HB.out)); (case side2 => exact HC0_7.out); rintro e w19 ⟨v512, rfl, ho0, hb⟩; refine ⟨_, rfl, ?_⟩; have HO513 := ak (Kd.S_lower ho0 (below_size (bl1 HB.out GE502.out))); replace BK502 := ak (blk_below (bk BK502.out) hb); replace HB := ak (below_step (bl1 HB.out GE502.out) hb); clear hb ho0; obtain ⟨Ao20, co20, eo20⟩ := Kd.S_slice HO513.out; subst eo20) | ((with_reducible refine gc 9 ?_); refine gL 9 Tryz.func9 (some 14) #[.agg #[.string t504, .string t505, .int .i64 t506, .string t507, .string t508, .bool t509, .int .i64 t510, .slice Ao20 t511.length co20]] ?_; (with_reducible refine (spec_GoodGateway.calls k t504 t505 t506 t507 t508 t509 t510 _ _ t511 t514 _ ?side1 ?side2 A8.out).mono ?_); (case side1 => exact kc (Kd.S_reads' HO513.out).2.2); (case side2 => exact (Kd.S_reads' HO513.out).2.1); rintro e w21 ⟨rfl, hb⟩; refine ⟨_, rfl, ?_⟩; replace HO513 := ak (Kd.S_below (by (with_reducible repeat (first | apply Kd.S_alloc | apply Kd.S_drewN | apply Kd.S_drew)); exact HO513.out) hb); replace BK502 := ak (blk_below (bk BK502.out) hb); replace HB := ak (below_step (bl1 HB.out GE502.out) hb); clear hb; obtain ⟨_, _, _, _, _, _, _, _, _, _, _, _, _, _, _, _⟩ := b8 BK502.out) | ((with_reducible refine gc 10 ?_); refine gL 10 Tryz.func10 (some 16) #[.agg #[.string a0_0, .string a0_1, .int .i64 a0_2, .string a0_3, .string a0_4, .bool a0_5, .int .i64 a0_6, .slice A0_7 l0_7.length c0_7]] ?_; (with_reducible refine (laws_toGateway.calls k a0_0 a0_1 a0_2 a0_3 a0_4 a0_5 a0_6 _ _ l0_7 t515 t516 t517 t518 t519 t520 t521 t522 _ ?side1 ?side2 A9.out).mono ?_); (case side1 => exact kc (Kd.C_below HR0_7.out HB.out)); (case side2 => exact HC0_7.out); rintro e w23 ⟨v523, rfl, ho0, hb⟩; refine ⟨_, rfl, ?_⟩; have HO524 := ak (Kd.S_lower (Kd.S_new' ho0 (Kd.S_lt (by (with_reducible repeat (first | apply Kd.S_alloc | apply Kd.S_drewN | apply Kd.S_drew)); exact HO513.out))) (below_size (bl1 HB.out GE502.out))); replace HO513 := ak (Kd.S_elder' (by (with_reducible repeat (first | apply Kd.S_alloc | apply Kd.S_drewN | apply Kd.S_drew)); exact HO513.out) (Kd.S_base ho0) hb); replace BK502 := ak (blk_below (bk BK502.out) hb); replace HB := ak (below_step (bl1 HB.out GE502.out) hb); clear hb ho0) | ((with_reducible refine gd 5 ?_); refine bE 5 #[.string (⟨#[]⟩ : ByteArray), .string (⟨#[]⟩ : ByteArray), .int .i64 0, .string (⟨#[]⟩ : ByteArray), .string (⟨#[]⟩ : ByteArray), .bool false, .int .i64 0, .slice none 0 0] 32 ?_; intro gb525 hg w24 hbox hb; replace HO513 := ak (Kd.S_below (by (with_reducible repeat (first | apply Kd.S_alloc | apply Kd.S_drewN | apply Kd.S_drew)); exact HO513.out) hb); replace HO524 := ak (Kd.S_below (by (with_reducible repeat (first | apply Kd.S_alloc | apply Kd.S_drewN | apply Kd.S_drew)); exact HO524.out) hb); have BK525 := ak hbox; have GW525 := gs hg (bl1 HB.out GE502.out); have GE525 := gs hg (bl1 HB.out GE502.out); replace HB := ak (below_step (bl1 HB.out GE502.out) hb); have NB502_525 := nl hg BK502.out; have NB525_502 := ng hg BK502.out; replace BK502 := ak (blk_below (bk BK502.out) hb); clear hb hbox hg; have hnb25 := NB525_502.out; have hnc25 := NB502_525.out; obtain ⟨_, _, _, _, _, _, _, _, _, _, _, _, _, _, _, _⟩ := b8 BK525.out; obtain ⟨Ao27, co27, eo27⟩ := Kd.S_slice HO524.out; subst eo27) | ((with_reducible refine gc 11 ?_); refine gL 11 Tryz.func11 (some 18) #[.agg #[.string t515, .string t516, .int .i64 t517, .string t518, .string t519, .bool t520, .int .i64 t521, .slice Ao27 t522.length co27]] ?_; (with_reducible refine (impl_GoodGateway.calls k t515 t516 t517 t518 t519 t520 t521 _ _ t522 t526 _ ?side1 ?side2 A10.out (globg HT.out (bl2 HB.out GE502.out GE525.out))).mono ?_); (case side1 => refine (Kd.S_reads' (e := 61) (base := w.heap.size) (ok := fun k_ => (True ∧ some k_ ≠ (.slice Ao20 t511.length co20 : Value).ownBlock)) (n := t522.length) (c := co27) ?_).2.2; exact (by (with_reducible repeat (first | apply Kd.S_alloc | apply Kd.S_drewN | apply Kd.S_drew)); exact (Kd.S_mono (Kd.S_far (p := ⟨gb525, 7, none⟩) (Kd.S_far (p := ⟨gb525, 6, none⟩) (Kd.S_far (p := ⟨gb525, 5, none⟩) (Kd.S_far (p := ⟨gb525, 4, none⟩) (Kd.S_far (p := ⟨gb525, 3, none⟩) (Kd.S_far (p := ⟨gb525, 2, none⟩) (Kd.S_far (p := ⟨gb525, 1, none⟩) (Kd.S_far (p := ⟨gb525, 0, none⟩) (Kd.S_types HO524.out BK525.out (by decide)) (fun _ hk => hk.2) (.string t515)) (fun _ hk => hk.2) (.string t516)) (fun _ hk => hk.2) (.int .i64 t517)) (fun _ hk => hk.2) (.string t518)) (fun _ hk => hk.2) (.string t519)) (fun _ hk => hk.2) (.bool t520)) (fun _ hk => hk.2) (.int .i64 t521)) (fun _ hk => hk.2) (.slice Ao27 t522.length co27)) (fun _ h_ => h_.1)))); (case side2 => exact (Kd.S_reads' HO524.out).2.1); rintro e w28 ⟨rfl, hb⟩; refine ⟨_, rfl, ?_⟩; replace HO513 := ak (Kd.S_below (by (with_reducible repeat (first | apply Kd.S_alloc | apply Kd.S_drewN | apply Kd.S_drew)); exact (Kd.S_mono (Kd.S_far (p := ⟨gb525, 7, none⟩) (Kd.S_far (p := ⟨gb525, 6, none⟩) (Kd.S_far (p := ⟨gb525, 5, none⟩) (Kd.S_far (p := ⟨gb525, 4, none⟩) (Kd.S_far (p := ⟨gb525, 3, none⟩) (Kd.S_far (p := ⟨gb525, 2, none⟩) (Kd.S_far (p := ⟨gb525, 1, none⟩) (Kd.S_far (p := ⟨gb525, 0, none⟩) (Kd.S_types HO513.out BK525.out (by decide)) (fun _ hk => hk.2) (.string t515)) (fun _ hk => hk.2) (.string t516)) (fun _ hk => hk.2) (.int .i64 t517)) (fun _ hk => hk.2) (.string t518)) (fun _ hk => hk.2) (.string t519)) (fun _ hk => hk.2) (.bool t520)) (fun _ hk => hk.2) (.int .i64 t521)) (fun _ hk => hk.2) (.slice Ao27 t522.length co27)) (fun _ h_ => h_.1))) hb); replace HO524 := ak (Kd.S_below (by (with_reducible repeat (first | apply Kd.S_alloc | apply Kd.S_drewN | apply Kd.S_drew)); exact (Kd.S_mono (Kd.S_far (p := ⟨gb525, 7, none⟩) (Kd.S_far (p := ⟨gb525, 6, none⟩) (Kd.S_far (p := ⟨gb525, 5, none⟩) (Kd.S_far (p := ⟨gb525, 4, none⟩) (Kd.S_far (p := ⟨gb525, 3, none⟩) (Kd.S_far (p := ⟨gb525, 2, none⟩) (Kd.S_far (p := ⟨gb525, 1, none⟩) (Kd.S_far (p := ⟨gb525, 0, none⟩) (Kd.S_types HO524.out BK525.out (by decide)) (fun _ hk => hk.2) (.string t515)) (fun _ hk => hk.2) (.string t516)) (fun _ hk => hk.2) (.int .i64 t517)) (fun _ hk => hk.2) (.string t518)) (fun _ hk => hk.2) (.string t519)) (fun _ hk => hk.2) (.bool t520)) (fun _ hk => hk.2) (.int .i64 t521)) (fun _ hk => hk.2) (.slice Ao27 t522.length co27)) (fun _ h_ => h_.1))) hb); replace BK502 := ak (blk_below (g := gb502) (o := .cells #[.string a0_0, .string a0_1, .int .i64 a0_2, .string a0_3, .string a0_4, .bool a0_5, .int .i64 a0_6, .slice A0_7 l0_7.length c0_7] 26 (0, 0)) (bq BK502.out) hb); replace BK525 := ak (blk_below (g := gb525) (o := .cells #[.string t515, .string t516, .int .i64 t517, .string t518, .string t519, .bool t520, .int .i64 t521, .slice Ao27 t522.length co27] 32 (0, 0)) (bq BK525.out) hb); replace HB := ak (below_step (bl2 HB.out GE502.out GE525.out) hb); clear hb))
    replace HO513 := ak (Kd.S_drew HO513.out)
    replace HO524 := ak (Kd.S_drew HO524.out)
    replace BK502 := ak (blk_drew BK502.out)
    replace BK525 := ak (blk_drew BK525.out)
    replace HB := ak (below_drew1 HB.out)
    refine start_ (n := 5) (S := fun w' => w'.cell? ⟨gb525, 0, none⟩ = some (.string t515) ∧ w'.cell? ⟨gb525, 1, none⟩ = some (.string t516) ∧ w'.cell? ⟨gb525, 2, none⟩ = some (.int .i64 t517) ∧ w'.cell? ⟨gb525, 3, none⟩ = some (.string t518) ∧ w'.cell? ⟨gb525, 4, none⟩ = some (.string t519) ∧ w'.cell? ⟨gb525, 5, none⟩ = some (.bool t520) ∧ w'.cell? ⟨gb525, 6, none⟩ = some (.int .i64 t521) ∧ w'.cell? ⟨gb525, 7, none⟩ = some (.slice Ao27 t522.length co27) ∧ w'.cell? ⟨gb502, 0, none⟩ = some (.string a0_0) ∧ w'.cell? ⟨gb502, 1, none⟩ = some (.string a0_1) ∧ w'.cell? ⟨gb502, 2, none⟩ = some (.int .i64 a0_2) ∧ w'.cell? ⟨gb502, 3, none⟩ = some (.string a0_3) ∧ w'.cell? ⟨gb502, 4, none⟩ = some (.string a0_4) ∧ w'.cell? ⟨gb502, 5, none⟩ = some (.bool a0_5) ∧ w'.cell? ⟨gb502, 6, none⟩ = some (.int .i64 a0_6) ∧ w'.cell? ⟨gb502, 7, none⟩ = some (.slice A0_7 l0_7.length c0_7)) (ds := []) #[false, false, false, false, false] (by kernel_rfl) rfl rfl ⟨bc0 BK525.out, bc1 BK525.out, bc2 BK525.out, bc3 BK525.out, bc4 BK525.out, bc5 BK525.out, bc6 BK525.out, bc7 BK525.out, bc0 BK502.out, bc1 BK502.out, bc2 BK502.out, bc3 BK502.out, bc4 BK502.out, bc5 BK502.out, bc6 BK502.out, bc7 BK502.out⟩ (fun hHeld => ?_)
    generalize w28.drew = w29 at HO513 HO524 BK502 BK525 HB hHeld ⊢
    refine take_ (i := 0) (N := some 22) (v := ?_) (a' := ?_) #[true, false, false, false, false] rfl rfl (by kernel_rfl) (fun _ _ _ h => h) (Or.inl ⟨by rfl, ?_⟩) hHeld ?_ ?_
    rotate_left
    ·rintro w' ⟨s0, s1, s2, s3, s4, s5, s6, s7, s8, s9, s10, s11, s12, s13, s14, s15⟩
     go_simp
     with_reducible rfl
    rotate_left
    ·simp only [Act.put, List.setIfInBounds_toArray, List.set_cons_zero, List.set_cons_succ, i64_w, i32_w]
     rfl
    refine take_ (i := 1) (N := some 23) (v := ?_) (a' := ?_) #[true, true, false, false, false] rfl rfl (by kernel_rfl) (fun _ _ _ h => h) (Or.inl ⟨by rfl, ?_⟩) hHeld ?_ ?_
    rotate_left
    ·rintro w' ⟨s0, s1, s2, s3, s4, s5, s6, s7, s8, s9, s10, s11, s12, s13, s14, s15⟩
     go_simp
     with_reducible rfl
    rotate_left
    ·simp only [Act.put, List.setIfInBounds_toArray, List.set_cons_zero, List.set_cons_succ, i64_w, i32_w]
     rfl
    refine one_ (i := 2) (N := some 24) #[true, true, true, false, false] rfl rfl (by kernel_rfl) (by decide) (fun K hK => ?_)
    refine gO Tryz.func10 #[.agg #[.string a0_0, .string a0_1, .int .i64 a0_2, .string a0_3, .string a0_4, .bool a0_5, .int .i64 a0_6, .slice A0_7 l0_7.length c0_7]] ?_
    with_reducible refine (laws_toGateway.calls k a0_0 a0_1 a0_2 a0_3 a0_4 a0_5 a0_6 _ _ l0_7 t527 t528 t529 t530 t531 t532 t533 t534 _ ?side1 ?side2 A12.out).mono ?_
    (case side1 => exact kc (Kd.C_below HR0_7.out HB.out))
    (case side2 => exact HC0_7.out)
    rintro e w30 ⟨v535, rfl, ho0, hb⟩
    refine ⟨_, rfl, ?_⟩
    have HO536 := ak (Kd.S_lower (Kd.S_new' (Kd.S_new' ho0 (Kd.S_lt (by (with_reducible repeat (first | apply Kd.S_alloc | apply Kd.S_drewN | apply Kd.S_drew)); exact HO513.out))) (Kd.S_lt (by (with_reducible repeat (first | apply Kd.S_alloc | apply Kd.S_drewN | apply Kd.S_drew)); exact HO524.out))) (below_size (bl2 HB.out GE502.out GE525.out)))
    replace HO513 := ak (Kd.S_elder' (by (with_reducible repeat (first | apply Kd.S_alloc | apply Kd.S_drewN | apply Kd.S_drew)); exact HO513.out) (Kd.S_base ho0) hb)
    replace HO524 := ak (Kd.S_elder' (by (with_reducible repeat (first | apply Kd.S_alloc | apply Kd.S_drewN | apply Kd.S_drew)); exact HO524.out) (Kd.S_base ho0) hb)
    replace BK502 := ak (blk_below (bk BK502.out) hb)
    replace BK525 := ak (blk_below (bk BK525.out) hb)
    replace HB := ak (below_step (bl2 HB.out GE502.out GE525.out) hb)
    clear hb
    clear ho0
    obtain ⟨Ao31, co31, eo31⟩ := Kd.S_slice HO536.out
    (first | subst eo31 | (injection eo31 with f1_ f2_ f3_; have f4_ := f1_.symm; have f5_ := f3_.symm; clear f1_ f2_ f3_; subst f4_; subst f5_))
    refine hK.out _ _ ⟨bc0 BK525.out, bc1 BK525.out, bc2 BK525.out, bc3 BK525.out, bc4 BK525.out, bc5 BK525.out, bc6 BK525.out, bc7 BK525.out, bc0 BK502.out, bc1 BK502.out, bc2 BK502.out, bc3 BK502.out, bc4 BK502.out, bc5 BK502.out, bc6 BK502.out, bc7 BK502.out⟩ (fun hHeld => ?_)
    clear hK K
    refine nr (some 24) ?_
    refine one_ (i := 3) (N := some 25) #[true, true, true, true, false] rfl rfl (by kernel_rfl) (by decide) (fun K hK => ?_)
    refine gO Tryz.func12 #[.agg #[.string t515, .string t516, .int .i64 t517, .string t518, .string t519, .bool t520, .int .i64 t521, .slice Ao27 t522.length co27], .agg #[.string t527, .string t528, .int .i64 t529, .string t530, .string t531, .bool t532, .int .i64 t533, .slice Ao31 t534.length co31]] ?_
    with_reducible refine (laws_eqGateway.calls k t515 t516 t517 t518 t519 t520 t521 _ _ t522 t527 t528 t529 t530 t531 t532 t533 _ _ t534 true _ ?side1 ?side2 ?side3 ?side4 A13.out).mono ?_
    (case side1 => exact kc (Kd.S_reads' HO524.out).2.2)
    (case side2 => exact (Kd.S_reads' HO524.out).2.1)
    (case side3 => exact kc (Kd.S_reads' HO536.out).2.2)
    (case side4 => exact (Kd.S_reads' HO536.out).2.1)
    rintro e w32 ⟨rfl, hb⟩
    refine ⟨_, rfl, ?_⟩
    replace HO513 := ak (Kd.S_below (by (with_reducible repeat (first | apply Kd.S_alloc | apply Kd.S_drewN | apply Kd.S_drew)); exact HO513.out) hb)
    replace HO524 := ak (Kd.S_below (by (with_reducible repeat (first | apply Kd.S_alloc | apply Kd.S_drewN | apply Kd.S_drew)); exact HO524.out) hb)
    replace HO536 := ak (Kd.S_below (by (with_reducible repeat (first | apply Kd.S_alloc | apply Kd.S_drewN | apply Kd.S_drew)); exact HO536.out) hb)
    replace BK502 := ak (blk_below (bk BK502.out) hb)
    replace BK525 := ak (blk_below (bk BK525.out) hb)
    replace HB := ak (below_step (bl2 HB.out GE502.out GE525.out) hb)
    clear hb
    refine hK.out _ _ ⟨bc0 BK525.out, bc1 BK525.out, bc2 BK525.out, bc3 BK525.out, bc4 BK525.out, bc5 BK525.out, bc6 BK525.out, bc7 BK525.out, bc0 BK502.out, bc1 BK502.out, bc2 BK502.out, bc3 BK502.out, bc4 BK502.out, bc5 BK502.out, bc6 BK502.out, bc7 BK502.out⟩ (fun hHeld => ?_)
    clear hK K
    refine nr (some 25) ?_
    refine pure_ (i := 4) (N := some 26) (v := ?_) (a' := ?_) #[true, true, true, true, true] rfl rfl (by kernel_rfl) (fun _ _ _ h => h) (Or.inl ⟨by rfl, ?_⟩) ?_ ?_
    rotate_left
    ·intro w'
     go_simp
     with_reducible rfl
    rotate_left
    ·simp only [Act.put, List.setIfInBounds_toArray, List.set_cons_zero, List.set_cons_succ, i64_w, i32_w]
     rfl
    refine done_ (by kernel_rfl) ?_
    try go_wp2
    go_ret
    exact rz (bl2 HB.out GE502.out GE525.out)
   ·replace c14 := Bool.eq_false_iff.mpr c14
    subst c14
    rw [if_neg ff] at H
    exact absurd H (by simp)

def wf23 (x : S23) : Prop := x.f0.size ≤ 140737488351232 ∧ x.f1.size ≤ 140737488351232 ∧ (Lit.int .i64 x.f2).wf = true ∧ x.f3.size ≤ 140737488351232 ∧ x.f4.size ≤ 140737488351232 ∧ True
theorem op23 : Opens Tryz.prog 23 k23 wf23 := Opens.struct (d := (Kd.pair Kd.string (Kd.pair Kd.string (Kd.pair (Kd.int .i64) (Kd.pair Kd.string (Kd.pair Kd.string Kd.bool)))))) (fun x : S23 => (x.f0, x.f1, x.f2, x.f3, x.f4, x.f5)) (fun p => (⟨p.1, p.2.1, p.2.2.1, p.2.2.2.1, p.2.2.2.2.1, p.2.2.2.2.2⟩ : S23)) (fun _ => rfl) Tryz.underlying23 (by kernel_rfl) (OpensL.cons rfl (by kernel_rfl) (Opens.string Tryz.underlying9) (OpensL.cons rfl (by kernel_rfl) (Opens.string Tryz.underlying9) (OpensL.cons rfl (by kernel_rfl) (Opens.int Tryz.underlying3) (OpensL.cons rfl (by kernel_rfl) (Opens.string Tryz.underlying9) (OpensL.cons rfl (by kernel_rfl) (Opens.string Tryz.underlying9) (OpensL.last rfl (by kernel_rfl) (Opens.bool Tryz.underlying4)))))))
def wf122 (x : S122) : Prop := x.f0.size ≤ 140737488351232 ∧ x.f1.size ≤ 140737488351232
theorem op122 : Opens Tryz.prog 122 k122 wf122 := Opens.struct (d := (Kd.pair Kd.string Kd.string)) (fun x : S122 => (x.f0, x.f1)) (fun p => (⟨p.1, p.2⟩ : S122)) (fun _ => rfl) Tryz.underlying122 (by kernel_rfl) (OpensL.cons rfl (by kernel_rfl) (Opens.string Tryz.underlying9) (OpensL.last rfl (by kernel_rfl) (Opens.string Tryz.underlying9)))
def wf48 (x : S48) : Prop := (Lit.int .i64 x.f0).wf = true ∧ x.f1.size ≤ 140737488351232 ∧ (x.f2.length * 32 ≤ 140737488351232 ∧ ∀ y538 ∈ x.f2, wf122 y538) ∧ x.f3.size ≤ 140737488351232
theorem op48 : Opens Tryz.prog 48 k48 wf48 := Opens.struct (d := (Kd.pair (Kd.int .i64) (Kd.pair Kd.string (Kd.pair (Kd.slice 122 k122) Kd.string)))) (fun x : S48 => (x.f0, x.f1, x.f2, x.f3)) (fun p => (⟨p.1, p.2.1, p.2.2.1, p.2.2.2⟩ : S48)) (fun _ => rfl) Tryz.underlying48 (by kernel_rfl) (OpensL.cons rfl (by kernel_rfl) (Opens.int Tryz.underlying3) (OpensL.cons rfl (by kernel_rfl) (Opens.string Tryz.underlying9) (OpensL.cons rfl (by kernel_rfl) (Opens.slice Tryz.underlying46 (by kernel_rfl) (by kernel_rfl) op122) (OpensL.last rfl (by kernel_rfl) (Opens.string Tryz.underlying9)))))
def wf50 (x : S50) : Prop := wf48 x.f0 ∧ (Lit.int .i64 x.f1).wf = true ∧ (Lit.int .i64 x.f2).wf = true
theorem op50 : Opens Tryz.prog 50 k50 wf50 := Opens.struct (d := (Kd.pair k48 (Kd.pair (Kd.int .i64) (Kd.int .i64)))) (fun x : S50 => (x.f0, x.f1, x.f2)) (fun p => (⟨p.1, p.2.1, p.2.2⟩ : S50)) (fun _ => rfl) Tryz.underlying50 (by kernel_rfl) (OpensL.cons rfl (by kernel_rfl) op48 (OpensL.cons rfl (by kernel_rfl) (Opens.int Tryz.underlying3) (OpensL.last rfl (by kernel_rfl) (Opens.int Tryz.underlying3))))
def wf52 (x : S52) : Prop := x.f0.size ≤ 140737488351232 ∧ (x.f1.length * 32 ≤ 140737488351232 ∧ ∀ y539 ∈ x.f1, wf122 y539) ∧ wf50 x.f2
theorem op52 : Opens Tryz.prog 52 k52 wf52 := Opens.struct (d := (Kd.pair Kd.string (Kd.pair (Kd.slice 122 k122) k50))) (fun x : S52 => (x.f0, x.f1, x.f2)) (fun p => (⟨p.1, p.2.1, p.2.2⟩ : S52)) (fun _ => rfl) Tryz.underlying52 (by kernel_rfl) (OpensL.cons rfl (by kernel_rfl) (Opens.string Tryz.underlying9) (OpensL.cons rfl (by kernel_rfl) (Opens.slice Tryz.underlying46 (by kernel_rfl) (by kernel_rfl) op122) (OpensL.last rfl (by kernel_rfl) op50)))
def wf26 (x : S26) : Prop := wf23 x.f0 ∧ (Lit.int .i64 x.f1).wf = true ∧ (x.f2.length * 120 ≤ 140737488351232 ∧ ∀ y540 ∈ x.f2, wf52 y540)
theorem op26 : Opens Tryz.prog 26 k26 wf26 := Opens.struct (d := (Kd.pair k23 (Kd.pair (Kd.int .i64) (Kd.slice 52 k52)))) (fun x : S26 => (x.f0, x.f1, x.f2)) (fun p => (⟨p.1, p.2.1, p.2.2⟩ : S26)) (fun _ => rfl) Tryz.underlying26 (by kernel_rfl) (OpensL.cons rfl (by kernel_rfl) op23 (OpensL.cons rfl (by kernel_rfl) (Opens.int Tryz.underlying3) (OpensL.last rfl (by kernel_rfl) (Opens.slice Tryz.underlying24 (by kernel_rfl) (by kernel_rfl) op52))))
/-- THE ONE PURE STATEMENT of laws_FnExactGoodGateway: yours. -/
def laws_FnExactGoodGateway.Pure : Prop := ∀ (x0 : S26), wf26 x0 → ∃ k, laws_FnExactGoodGateway.f k x0.f0.f0 x0.f0.f1 x0.f0.f2 x0.f0.f3 x0.f0.f4 x0.f0.f5 x0.f1 x0.f2 = some true
set_option maxRecDepth 100000 in
theorem laws_FnExactGoodGateway.walk (P : laws_FnExactGoodGateway.Pure) (x0 : S26) (cs0 : Array Value) (w : World) (hk0 : k26.K w x0 cs0.toList) (w0 : wf26 x0) (ht : Glob w) :
  Calls Tryz.prog 3 #[.agg cs0] w fun e w' => e = .returned (.bool true) ∧ Below w.heap.size w w' := by
 obtain ⟨A0_7, c0_7, e0, hl0_7, hr0_7⟩ := k26_open hk0
 obtain rfl : cs0 = #[.string x0.f0.f0, .string x0.f0.f1, .int .i64 x0.f0.f2, .string x0.f0.f3, .string x0.f0.f4, .bool x0.f0.f5, .int .i64 x0.f1, .slice A0_7 x0.f2.length c0_7] := by rw [← Array.toArray_toList (xs := cs0), e0]
 obtain ⟨k, h⟩ := P x0 w0
 refine (laws_FnExactGoodGateway.calls k x0.f0.f0 x0.f0.f1 x0.f0.f2 x0.f0.f3 x0.f0.f4 x0.f0.f5 x0.f1 _ _ x0.f2 true w hr0_7 hl0_7 h ht).mono ?_
 rintro e w' ⟨rfl, hd⟩
 exact ⟨rfl, hd⟩

end Go.Proofs.YtlmnmakkojgfnaaGreatDoor.PFnExactKeptFor
