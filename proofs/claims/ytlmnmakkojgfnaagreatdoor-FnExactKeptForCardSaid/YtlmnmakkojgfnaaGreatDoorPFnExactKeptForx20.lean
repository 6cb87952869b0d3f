-- written by a program of this session (wip/tool)
import Derived.Test.YtlmnmakkojgfnaaGreatDoorPFnExactKeptForx0
import Derived.Test.YtlmnmakkojgfnaaGreatDoorPFnExactKeptForx19
import Derived.Test.YtlmnmakkojgfnaaGreatDoorVOwn0
import Derived.Test.YtlmnmakkojgfnaaGreatDoorVOwnOpen
import Derived.WalkKit
import Derived.BigCall
import Derived.Test.YtlmnmakkojgfnaaGreatDoorOwnTr
import Derived.Test.YtlmnmakkojgfnaaGreatDoorVOwnShort
import Derived.Test.YtlmnmakkojgfnaaGreatDoorOwnSq
import Derived.Test.YtlmnmakkojgfnaaGreatDoorOwnIt
namespace Go.Proofs.YtlmnmakkojgfnaaGreatDoor.PFnExactKeptFor
open Go.RowKit Go.Proofs.YtlmnmakkojgfnaaGreatDoorW.PrintWords Go.Proofs.YtlmnmakkojgfnaaGreatDoorW.PrintLast Go.Proofs.YtlmnmakkojgfnaaGreatDoorW.PrintMore Go.Shelf Go.Proofs.YtlmnmakkojgfnaaGreatDoorOwn
attribute [local go_sem] max2_int min2_int max_two min_two max_three min_three max_four min_four   -- for this text's walks alone
set_option linter.unusedVariables false
set_option linter.unusedSimpArgs false

/-! ### impl_Item_own: function 87 -/
def impl_Item_own.f (a0_0 : ByteArray) (l0_1 : List (S105)) (a0_2 : Int) (a0_3 : ByteArray) (l0_4 : List (S105)) (a0_5 : ByteArray) (a0_6 : Int) (a0_7 : Int) : Option (ByteArray × (List (S105)) × Int × ByteArray × (List (S105)) × ByteArray × Int × Int) := (slices_CloneF.f l0_1).bind fun t513 => ((impl_Kept_own.f a0_2 a0_3 l0_4 a0_5 a0_6 a0_7).bind fun bt516 => (some (a0_0, t513, bt516.1, bt516.2.1, bt516.2.2.1, bt516.2.2.2.1, bt516.2.2.2.2.1, bt516.2.2.2.2.2)))
def impl_Item_own.T1 : Bool × List (List Nat × List Nat) := (true, [([], []), ([0], [0]), ([1], [1]), ([], []), ([3], [3]), ([4, 2], [4]), ([0, 1, 2, 3, 4], []), ([6, 2, 5, 0, 1, 2, 3, 4], [2, 6]), ([0, 1, 2, 3, 4, 5, 6, 7], []), ([8, 5, 7, 0, 1, 2, 3, 4, 5, 6, 7], [5, 8])])
def impl_Item_own.B1 : List Nat := [0, 1, 3, 0, 8, 31, 31, 127, 255, 511]
theorem impl_Item_own.tab1 : rtab .any (opsOf Tryz.f87 1) = impl_Item_own.T1 := by kernel_rfl
theorem impl_Item_own.bits1 : waitsOk impl_Item_own.T1.2 impl_Item_own.B1 = true := by kernel_rfl
set_option maxHeartbeats 8000000 in
set_option maxRecDepth 100000 in
theorem impl_Item_own.calls (a0_0 : ByteArray) (A0_1 : Option Addr) (c0_1 : Nat) (l0_1 : List (S105)) (a0_2 : Int) (a0_3 : ByteArray) (A0_4 : Option Addr) (c0_4 : Nat) (l0_4 : List (S105)) (a0_5 : ByteArray) (a0_6 : Int) (a0_7 : Int) (r1 : ByteArray) (r2 : List (S105)) (r3 : Int) (r4 : ByteArray) (r5 : List (S105)) (r6 : ByteArray) (r7 : Int) (r8 : Int) (w : World) (hr0_1 : Kd.C k105 w A0_1 l0_1.length l0_1) (hc0_1 : l0_1.length ≤ c0_1) (hr0_4 : Kd.C k105 w A0_4 l0_4.length l0_4) (hc0_4 : l0_4.length ≤ c0_4) (h : impl_Item_own.f a0_0 l0_1 a0_2 a0_3 l0_4 a0_5 a0_6 a0_7 = some (r1, r2, r3, r4, r5, r6, r7, r8)) :
  Calls Tryz.prog 87 #[.agg #[.string a0_0, .slice A0_1 l0_1.length c0_1, .int .i64 a0_2, .string a0_3, .slice A0_4 l0_4.length c0_4, .string a0_5, .int .i64 a0_6, .int .i64 a0_7]] w fun e w' => ∃ v1_ v4_ : Value, e = .returned (.agg #[.string r1, v1_, .int .i64 r3, .string r4, v4_, .string r6, .int .i64 r7, .int .i64 r8]) ∧ Kd.R k105 105 w' w.heap.size (fun k_ => some k_ ≠ (v4_ : Value).ownBlock) v1_ r2 ∧ Kd.R k105 105 w' w.heap.size (fun k_ => some k_ ≠ (v1_ : Value).ownBlock) v4_ r5 ∧ Below w.heap.size w w' := by
 have hu61 := Tryz.underlying61
 have hu59 := Tryz.underlying59
 have HR0_1 := ak hr0_1
 have HC0_1 := ak hc0_1
 clear hr0_1 hc0_1
 have HR0_4 := ak hr0_4
 have HC0_4 := ak hc0_4
 clear hr0_4 hc0_4
 have HB := ak (Below.refl w.heap.size w)
 unfold impl_Item_own.f at h; have H := h
 clear h
 replace H := bs H
 obtain ⟨t513, A2, H⟩ := H
 try dsimp only at H
 replace H := bs H
 obtain ⟨⟨t516, t517, t518, t521, t522, t523⟩, A3, H⟩ := H
 try dsimp only at H
 simp only [Option.some.injEq, Prod.mk.injEq] at H
 obtain ⟨rfl, rfl, rfl, rfl, rfl, rfl, rfl, rfl⟩ := H
 go_enter Tryz.func87, Tryz.ntmps87
 try go_wp2_with (first | ((with_reducible refine gd 1 ?_); refine bE 1 #[.string a0_0, .slice A0_1 l0_1.length c0_1, .int .i64 a0_2, .string a0_3, .slice A0_4 l0_4.length c0_4, .string a0_5, .int .i64 a0_6, .int .i64 a0_7] 61 ?_; intro gb511 hg w4 hbox hb; have BK511 := ak hbox; have GW511 := gs hg (bl HB.out); have GE511 := gs hg (bl HB.out); replace HB := ak (below_step (bl HB.out) hb); clear hb hbox hg) | ((with_reducible refine gd 2 ?_); refine bE 2 #[.string (⟨#[]⟩ : ByteArray), .slice none 0 0, .int .i64 0, .string (⟨#[]⟩ : ByteArray), .slice none 0 0, .string (⟨#[]⟩ : ByteArray), .int .i64 0, .int .i64 0] 61 ?_; intro gb512 hg w5 hbox hb; have BK512 := ak hbox; have GW512 := gs hg (bl1 HB.out GE511.out); have GE512 := gs hg (bl1 HB.out GE511.out); replace HB := ak (below_step (bl1 HB.out GE511.out) hb); have NB511_512 := nl hg BK511.out; have NB512_511 := ng hg BK511.out; replace BK511 := ak (blk_below (bk BK511.out) hb); clear hb hbox hg))
 replace BK511 := ak (blk_drew BK511.out)
 replace BK512 := ak (blk_drew BK512.out)
 replace HB := ak (below_drew1 HB.out)
 refine start_ (n := 10) (S := fun w' => w'.cell? ⟨gb511, 0, none⟩ = some (.string a0_0) ∧ w'.cell? ⟨gb511, 1, none⟩ = some (.slice A0_1 l0_1.length c0_1) ∧ w'.cell? ⟨gb511, 2, none⟩ = some (.int .i64 a0_2) ∧ w'.cell? ⟨gb511, 3, none⟩ = some (.string a0_3) ∧ w'.cell? ⟨gb511, 4, none⟩ = some (.slice A0_4 l0_4.length c0_4) ∧ w'.cell? ⟨gb511, 5, none⟩ = some (.string a0_5) ∧ w'.cell? ⟨gb511, 6, none⟩ = some (.int .i64 a0_6) ∧ w'.cell? ⟨gb511, 7, none⟩ = some (.int .i64 a0_7)) (ds := [7, 9]) #[false, false, false, false, false, false, false, false, false, false] (by kernel_rfl) rfl rfl ⟨bc0 BK511.out, bc1 BK511.out, bc2 BK511.out, bc3 BK511.out, bc4 BK511.out, bc5 BK511.out, bc6 BK511.out, bc7 BK511.out⟩ (fun hHeld => ?_); refine with_tabW impl_Item_own.tab1 impl_Item_own.bits1 (fun HT_ HW_ => ?_)
 generalize w5.drew = w6 at BK511 BK512 HB hHeld ⊢
 refine pu 0 (some 3) HT_ ?_
 refine pu 3 (some 6) HT_ ?_
 refine tk 1 (some 4) HT_ HW_ hHeld ?_
 refine tk 4 (some 7) HT_ HW_ hHeld ?_
 refine on 2 (some 5) HT_ (fun K hK => ?_)
 refine gO Tryz.func132 #[.slice A0_1 l0_1.length c0_1] ?_
 with_reducible refine (slices_CloneF.calls _ _ l0_1 t513 _ ?side1 ?side2 A2.out).mono ?_
 (case side1 => exact kc (Kd.C_below HR0_1.out HB.out))
 (case side2 => exact HC0_1.out)
 rintro e w7 ⟨v514, rfl, ho0, hb⟩
 refine ⟨_, rfl, ?_⟩
 have HO515 := ak (Kd.R_lower ho0 (below_size (bl2 HB.out GE511.out GE512.out)))
 replace BK511 := ak (blk_below (bk BK511.out) hb)
 replace BK512 := ak (blk_below (bk BK512.out) hb)
 replace HB := ak (below_step (bl2 HB.out GE511.out GE512.out) hb)
 clear hb
 clear ho0
 refine hK.out _ _ ⟨bc0 BK511.out, bc1 BK511.out, bc2 BK511.out, bc3 BK511.out, bc4 BK511.out, bc5 BK511.out, bc6 BK511.out, bc7 BK511.out⟩ (fun hHeld => ?_)
 clear hK K
 refine nr (some 5) ?_
 refine pu 6 (some 9) HT_ ?_
 refine on 5 (some 8) HT_ (fun K hK => ?_)
 refine gO Tryz.func133 #[.agg #[.int .i64 a0_2, .string a0_3, .slice A0_4 l0_4.length c0_4, .string a0_5, .int .i64 a0_6, .int .i64 a0_7]] ?_
 with_reducible refine (impl_Kept_own.calls a0_2 a0_3 _ _ l0_4 a0_5 a0_6 a0_7 t516 t517 t518 t521 t522 t523 _ ?side1 ?side2 A3.out).mono ?_
 (case side1 => exact kc (Kd.C_below HR0_4.out HB.out))
 (case side2 => exact HC0_4.out)
 rintro e w8 ⟨v519, rfl, ho0, hb⟩
 refine ⟨_, rfl, ?_⟩
 have HO520 := ak (Kd.R_lower (Kd.R_new' ho0 (Kd.R_lt (kr HO515.out))) (below_size (bl2 HB.out GE511.out GE512.out)))
 replace HO515 := ak (Kd.R_elder' (kr HO515.out) (Kd.R_base ho0) hb)
 replace BK511 := ak (blk_below (bk BK511.out) hb)
 replace BK512 := ak (blk_below (bk BK512.out) hb)
 replace HB := ak (below_step (bl2 HB.out GE511.out GE512.out) hb)
 clear hb
 clear ho0
 obtain ⟨Ao9, co9, eo9⟩ := Kd.R_slice HO515.out
 (first | subst eo9 | (injection eo9 with f1_ f2_ f3_; have f4_ := f1_.symm; have f5_ := f3_.symm; clear f1_ f2_ f3_; subst f4_; subst f5_))
 obtain ⟨Ao13, co13, eo13⟩ := Kd.R_slice HO520.out
 (first | subst eo13 | (injection eo13 with f1_ f2_ f3_; have f4_ := f1_.symm; have f5_ := f3_.symm; clear f1_ f2_ f3_; subst f4_; subst f5_))
 refine hK.out _ _ ⟨bc0 BK511.out, bc1 BK511.out, bc2 BK511.out, bc3 BK511.out, bc4 BK511.out, bc5 BK511.out, bc6 BK511.out, bc7 BK511.out⟩ (fun hHeld => ?_)
 clear hK K
 refine nr (some 8) ?_
 refine last_ (i := 7) (N := none) #[true, true, true, true, true, true, true, true, false, false] rfl rfl (one_of HT_.out (by kernel_rfl)) (by decide) (fun K hK => ?_)
 have hs10 := bc1 BK511.out
 have hfs10 := blk_frozen BK511.out 1
 have hns10_1 := NB512_511.out
 have hms10_1 := NB511_512.out
 refine skip_ (w1 := ?_) (by rfl) rfl ?_ ?_
 rotate_left
 ·go_simp
  rfl
 refine hK.out _ _ ?_
 clear hK K
 refine pu 8 (some 10) HT_ ?_
 refine last_ (i := 9) (N := none) #[true, true, true, true, true, true, true, true, true, true] rfl rfl (one_of HT_.out (by kernel_rfl)) (by decide) (fun K hK => ?_)
 have hs11 := bc2 BK511.out
 have hfs11 := blk_frozen BK511.out 2
 have hns11_1 := NB512_511.out
 have hms11_1 := NB511_512.out
 have hs12 := bc3 BK511.out
 have hfs12 := blk_frozen BK511.out 3
 have hns12_1 := NB512_511.out
 have hms12_1 := NB511_512.out
 have hs14 := bc4 BK511.out
 have hfs14 := blk_frozen BK511.out 4
 have hns14_1 := NB512_511.out
 have hms14_1 := NB511_512.out
 have hs15 := bc5 BK511.out
 have hfs15 := blk_frozen BK511.out 5
 have hns15_1 := NB512_511.out
 have hms15_1 := NB511_512.out
 have hs16 := bc6 BK511.out
 have hfs16 := blk_frozen BK511.out 6
 have hns16_1 := NB512_511.out
 have hms16_1 := NB511_512.out
 have hs17 := bc7 BK511.out
 have hfs17 := blk_frozen BK511.out 7
 have hns17_1 := NB512_511.out
 have hms17_1 := NB511_512.out
 refine skip_ (w1 := ?_) (by rfl) rfl ?_ ?_
 rotate_left
 ·go_simp
  rfl
 refine hK.out _ _ ?_
 clear hK K
 refine done_ (done_of HT_.out (by kernel_rfl)) ?_
 have hnb18 := NB511_512.out
 have hnc18 := NB512_511.out
 obtain ⟨_, _, _, _, _, _, _, _, _, _, _, _, _, _, _, _⟩ := b8 BK511.out
 obtain ⟨_, _, _, _, _, _, _, _, _, _, _, _, _, _, _, _⟩ := b8 BK512.out
 try go_wp2
 refine bodyPost_ret (results_cell_row rfl _ _ gb512 61 #[.string a0_0, .slice Ao9 t513.length co9, .int .i64 t516, .string t517, .slice Ao13 t518.length co13, .string t521, .int .i64 t522, .int .i64 t523] (0, 0) _ rfl (bq BK512.out) Tryz.underlying61 rfl (by kernel_rfl)) rfl ?_
 exact ⟨_, _, by first | rfl | (simp [errW_none, errW_some] <;> rfl) | (simp [*, errW_none, errW_some] <;> rfl), by (with_reducible repeat (first | apply Kd.R_alloc | apply Kd.R_drewN | apply Kd.R_drew)); exact Kd.R_mono (Kd.R_far (p := ⟨gb512, 7, none⟩) (Kd.R_far (p := ⟨gb512, 6, none⟩) (Kd.R_far (p := ⟨gb512, 5, none⟩) (Kd.R_far (p := ⟨gb512, 4, none⟩) (Kd.R_far (p := ⟨gb512, 3, none⟩) (Kd.R_far (p := ⟨gb512, 2, none⟩) (Kd.R_far (p := ⟨gb512, 1, none⟩) (Kd.R_far (p := ⟨gb512, 0, none⟩) (Kd.R_far (p := ⟨gb511, 7, none⟩) (Kd.R_far (p := ⟨gb511, 6, none⟩) (Kd.R_far (p := ⟨gb511, 5, none⟩) (Kd.R_far (p := ⟨gb511, 4, none⟩) (Kd.R_far (p := ⟨gb511, 3, none⟩) (Kd.R_far (p := ⟨gb511, 2, none⟩) (Kd.R_far (p := ⟨gb511, 1, none⟩) (Kd.R_types (Kd.R_types HO515.out BK511.out (by decide)) BK512.out (by decide)) (fun _ hk => hk.1.2) (.slice Ao9 t513.length co9)) (fun _ hk => hk.1.2) (.int .i64 t516)) (fun _ hk => hk.1.2) (.string t517)) (fun _ hk => hk.1.2) (.slice Ao13 t518.length co13)) (fun _ hk => hk.1.2) (.string t521)) (fun _ hk => hk.1.2) (.int .i64 t522)) (fun _ hk => hk.1.2) (.int .i64 t523)) (fun _ hk => hk.2) (.string a0_0)) (fun _ hk => hk.2) (.slice Ao9 t513.length co9)) (fun _ hk => hk.2) (.int .i64 t516)) (fun _ hk => hk.2) (.string t517)) (fun _ hk => hk.2) (.slice Ao13 t518.length co13)) (fun _ hk => hk.2) (.string t521)) (fun _ hk => hk.2) (.int .i64 t522)) (fun _ hk => hk.2) (.int .i64 t523)) (fun _ hk => hk.1.1.2), by (with_reducible repeat (first | apply Kd.R_alloc | apply Kd.R_drewN | apply Kd.R_drew)); exact Kd.R_mono (Kd.R_far (p := ⟨gb512, 7, none⟩) (Kd.R_far (p := ⟨gb512, 6, none⟩) (Kd.R_far (p := ⟨gb512, 5, none⟩) (Kd.R_far (p := ⟨gb512, 4, none⟩) (Kd.R_far (p := ⟨gb512, 3, none⟩) (Kd.R_far (p := ⟨gb512, 2, none⟩) (Kd.R_far (p := ⟨gb512, 1, none⟩) (Kd.R_far (p := ⟨gb512, 0, none⟩) (Kd.R_far (p := ⟨gb511, 7, none⟩) (Kd.R_far (p := ⟨gb511, 6, none⟩) (Kd.R_far (p := ⟨gb511, 5, none⟩) (Kd.R_far (p := ⟨gb511, 4, none⟩) (Kd.R_far (p := ⟨gb511, 3, none⟩) (Kd.R_far (p := ⟨gb511, 2, none⟩) (Kd.R_far (p := ⟨gb511, 1, none⟩) (Kd.R_types (Kd.R_types HO520.out BK511.out (by decide)) BK512.out (by decide)) (fun _ hk => hk.1.2) (.slice Ao9 t513.length co9)) (fun _ hk => hk.1.2) (.int .i64 t516)) (fun _ hk => hk.1.2) (.string t517)) (fun _ hk => hk.1.2) (.slice Ao13 t518.length co13)) (fun _ hk => hk.1.2) (.string t521)) (fun _ hk => hk.1.2) (.int .i64 t522)) (fun _ hk => hk.1.2) (.int .i64 t523)) (fun _ hk => hk.2) (.string a0_0)) (fun _ hk => hk.2) (.slice Ao9 t513.length co9)) (fun _ hk => hk.2) (.int .i64 t516)) (fun _ hk => hk.2) (.string t517)) (fun _ hk => hk.2) (.slice Ao13 t518.length co13)) (fun _ hk => hk.2) (.string t521)) (fun _ hk => hk.2) (.int .i64 t522)) (fun _ hk => hk.2) (.int .i64 t523)) (fun _ hk => hk.1.1.2), bl2 HB.out GE511.out GE512.out⟩

/-! ### impl_forget: function 46 -/
def impl_forget.l0 : Nat → ByteArray → List (S61) → List (S61) → Int → Int → Option ((List (S61)))
 | 0, _, _, _, _, _ => none
 | k + 1, x1, x5, x8, x9, x10 => if x10 < x9 then (if 0 ≤ x10 then (if x10 < (x8.length : Int) then (if ((rd_T61 x8 x10).f0).toList = x1.toList then (impl_forget.l0 k x1 x5 x8 x9 (wrap64 (x10 + 1))) else ((impl_Item_own.f ((rd_T61 x8 x10).f0) ((rd_T61 x8 x10).f1) ((rd_T61 x8 x10).f2.f0.f0) ((rd_T61 x8 x10).f2.f0.f1) ((rd_T61 x8 x10).f2.f0.f2) ((rd_T61 x8 x10).f2.f0.f3) ((rd_T61 x8 x10).f2.f1) ((rd_T61 x8 x10).f2.f2)).bind fun bt526 => (if x5.length < 1172812402961 then (impl_forget.l0 k x1 (x5 ++ [(⟨bt526.1, bt526.2.1, (⟨(⟨bt526.2.2.1, bt526.2.2.2.1, bt526.2.2.2.2.1, bt526.2.2.2.2.2.1⟩ : S57), bt526.2.2.2.2.2.2.1, bt526.2.2.2.2.2.2.2⟩ : S59)⟩ : S61)]) x8 x9 (wrap64 (x10 + 1))) else (none)))) else (none)) else (none)) else (some x5)
def impl_forget.f (k : Nat) (l0 : List (S61)) (a1 : ByteArray) : Option ((List (S61))) := impl_forget.l0 k a1 ([] : List (S61)) l0 (l0.length : Int) 0
theorem impl_forget.mono_l : ∀ k, (∀ y0 y1 y2 y3 y4, LeO (impl_forget.l0 k y0 y1 y2 y3 y4) (impl_forget.l0 (k + 1) y0 y1 y2 y3 y4))
 | 0 => fun _ _ _ _ _ r h => by simp [impl_forget.l0] at h
 | k + 1 => by
  have ih0 := impl_forget.mono_l k
  ·intro y0 y1 y2 y3 y4
   unfold impl_forget.l0
   repeat' with_reducible first | exact ih0 _ _ _ _ _ | exact LeO.refl _ | exact LeO.none _ | refine LeO.ite ?_ ?_ | refine LeO.bind ?_ (fun _ => ?_)
theorem impl_forget.mono : ∀ a0 a1 k, LeO (impl_forget.f k a0 a1) (impl_forget.f (k + 1) a0 a1) := by
 intro a0 a1 k
 have ih0 := impl_forget.mono_l k
 unfold impl_forget.f
 repeat' with_reducible first | exact ih0 _ _ _ _ _ | exact LeO.refl _ | exact LeO.none _ | refine LeO.ite ?_ ?_ | refine LeO.bind ?_ (fun _ => ?_)
set_option maxHeartbeats 8000000 in
set_option maxRecDepth 100000 in
theorem impl_forget.calls (k : Nat) (A0 : Option Addr) (c0 : Nat) (l0 : List (S61)) (a1 : ByteArray) (r : List (S61)) (w : World) (hr0 : Kd.C k61 w A0 l0.length l0) (hc0 : l0.length ≤ c0) (h : impl_forget.f k l0 a1 = some r) :
  Calls Tryz.prog 46 #[.slice A0 l0.length c0, .string a1] w fun e w' => ∃ v0_ : Value, e = .returned (v0_) ∧ Kd.S k61 61 w' w.heap.size (fun _ => True) v0_ r ∧ Below w.heap.size w w' := by
 have hu61 := Tryz.underlying61
 have HR0 := ak hr0
 have HC0 := ak hc0
 clear hr0 hc0
 have HB := ak (Below.refl w.heap.size w)
 have H : (impl_forget.l0 k a1 ([] : List (S61)) l0 (l0.length : Int) 0) = some r := h
 clear h
 have H' := ak H
 clear H
 go_enter Tryz.func46, Tryz.ntmps46
 go_wp2
 go_loopg [5, 10] k (fun kq v5 v10 w' => ∃ (x5_1 : List (S61)) (x10_1 : Int), v10 = .int .i64 x10_1 ∧ Aside0 (impl_forget.l0 kq a1 x5_1 l0 (l0.length : Int) x10_1 = some r) ∧ Aside0 (kq ≤ k) ∧ Aside0 (Kd.S k61 61 w' w.heap.size (fun _ => True) v5 x5_1) ∧ Aside0 (Below w.heap.size w w'))
 case atStart => exact ⟨(([] : List (S61))), (0), (by first | rfl | (simp; done) | (simp [*]; done)), H', ⟨Nat.le_refl _⟩, ⟨by first | exact Kd.S_nil _ _ _ _ _ | exact Kd.N_nil _ _ _ _ _ | exact Kd.V_nil _ _ _ _ _ | exact Kd.Q_nil _ _ _ _ _ | exact Kd.R_nil _ _ _ _ _⟩, ⟨bl HB.out⟩⟩
 case round =>
  clear H'
  try clear p2
  obtain ⟨x5_1, x10_1, rfl, HA, HK1, HO_5, HB⟩ := hrel
  cases gk with
  | zero => exact absurd HA.out (by simp [impl_forget.l0])
  | succ k1 =>
   have H := HA.out
   clear HA
   simp only [impl_forget.l0] at H
   by_cases c3 : x10_1 < (l0.length : Int)
   ·rw [if_pos c3] at H
    have c3b0 := decide_eq_true c3
    clear c3
    by_cases c4 : 0 ≤ x10_1
    ·rw [if_pos c4] at H
     have c4b0 := decide_eq_true c4
     clear c4
     by_cases c5 : x10_1 < (l0.length : Int)
     ·rw [if_pos c5] at H
      have c5b0 := decide_eq_true c5
      clear c5
      by_cases c6 : ((rd_T61 l0 x10_1).f0).toList = a1.toList
      ·rw [if_pos c6] at H
       have c6b0 : (((rd_T61 l0 x10_1).f0).toList == a1.toList) = true := beq_iff_eq.mpr c6
       have c6b1 : (((rd_T61 l0 x10_1).f0).toList != a1.toList) = false := bne_eq_false_iff_eq.mpr c6
       clear c6
       have H' := ak H
       clear H
       have p524 : 0 ≤ (x10_1 : Int) := od
       have q524 : x10_1 < (l0.length : Int) := od
       obtain ⟨ad524, A524_1, c524_1, A524_4, c524_4, e524, hx524_0, hx524_1, hx524_2, hx524_3, hx524_4, hx524_5, hx524_6, hx524_7, hl524_1, hi524_1, hl524_4, hi524_4⟩ := at_T61 HR0.out x10_1 p524 q524
       cases e524
       replace hx524_0 := (HB.out.cell (World.block_lt_of_cell? w _ hx524_0)).trans hx524_0
       replace hx524_1 := (HB.out.cell (World.block_lt_of_cell? w _ hx524_1)).trans hx524_1
       replace hx524_2 := (HB.out.cell (World.block_lt_of_cell? w _ hx524_2)).trans hx524_2
       replace hx524_3 := (HB.out.cell (World.block_lt_of_cell? w _ hx524_3)).trans hx524_3
       replace hx524_4 := (HB.out.cell (World.block_lt_of_cell? w _ hx524_4)).trans hx524_4
       replace hx524_5 := (HB.out.cell (World.block_lt_of_cell? w _ hx524_5)).trans hx524_5
       replace hx524_6 := (HB.out.cell (World.block_lt_of_cell? w _ hx524_6)).trans hx524_6
       replace hx524_7 := (HB.out.cell (World.block_lt_of_cell? w _ hx524_7)).trans hx524_7
       have HR524_1 := ak hi524_1
       have HC524_1 := ak hl524_1
       clear hi524_1 hl524_1
       have HR524_4 := ak hi524_4
       have HC524_4 := ak hl524_4
       clear hi524_4 hl524_4
       replace p524 := eq_true p524
       replace q524 := eq_true q524
       go_wp2_with (first | ((with_reducible refine gd 7 ?_); refine bE 7 #[.string (⟨#[]⟩ : ByteArray), .slice none 0 0, .int .i64 0, .string (⟨#[]⟩ : ByteArray), .slice none 0 0, .string (⟨#[]⟩ : ByteArray), .int .i64 0, .int .i64 0] 61 ?_; intro gb525 hg w7 hbox hb; replace HO_5 := ak (Kd.S_below (Kd.S_elderB (by (with_reducible repeat (first | apply Kd.S_alloc | apply Kd.S_drewN | apply Kd.S_drew)); exact HO_5.out) gb525 (Nat.le_of_eq hg.symm)) hb); have BK525 := ak hbox; have GW525 := gs hg (bl HB.out); have GE525 := gs hg (bl HB.out); replace HB := ak (below_step (bl HB.out) hb); clear hb hbox hg; obtain ⟨_, _, _, _, _, _, _, _, _, _, _, _, _, _, _, _⟩ := b8 BK525.out))
       go_roundg k1
       case measure => have := HK1.out; omega
       case rel => exact ⟨(x5_1), (wrap64 (x10_1 + 1)), (by first | rfl | (simp; done) | (simp [*]; done)), H', ⟨by have := HK1.out; omega⟩, ⟨by (with_reducible repeat (first | apply Kd.S_alloc | apply Kd.S_drewN | apply Kd.S_drew)); exact Kd.S_mono (Kd.S_far (p := ⟨gb525, 7, none⟩) (Kd.S_far (p := ⟨gb525, 6, none⟩) (Kd.S_far (p := ⟨gb525, 5, none⟩) (Kd.S_far (p := ⟨gb525, 4, none⟩) (Kd.S_far (p := ⟨gb525, 3, none⟩) (Kd.S_far (p := ⟨gb525, 2, none⟩) (Kd.S_far (p := ⟨gb525, 1, none⟩) (Kd.S_far (p := ⟨gb525, 0, none⟩) (Kd.S_mono HO_5.out (fun k_ hk => (⟨hk, hk.2⟩ : _ ∧ k_ ≠ gb525))) (fun _ hk => hk.2) (.string ((rd_T61 l0 x10_1).f0))) (fun _ hk => hk.2) (.slice A524_1 ((rd_T61 l0 x10_1).f1).length c524_1)) (fun _ hk => hk.2) (.int .i64 ((rd_T61 l0 x10_1).f2.f0.f0))) (fun _ hk => hk.2) (.string ((rd_T61 l0 x10_1).f2.f0.f1))) (fun _ hk => hk.2) (.slice A524_4 ((rd_T61 l0 x10_1).f2.f0.f2).length c524_4)) (fun _ hk => hk.2) (.string ((rd_T61 l0 x10_1).f2.f0.f3))) (fun _ hk => hk.2) (.int .i64 ((rd_T61 l0 x10_1).f2.f1))) (fun _ hk => hk.2) (.int .i64 ((rd_T61 l0 x10_1).f2.f2))) (fun _ hk => trivial)⟩, ⟨bl1 HB.out GE525.out⟩⟩
      ·rw [if_neg c6] at H
       have c6b0 : (((rd_T61 l0 x10_1).f0).toList == a1.toList) = false := beq_eq_false_iff_ne.mpr c6
       have c6b1 : (((rd_T61 l0 x10_1).f0).toList != a1.toList) = true := bne_iff_ne.mpr c6
       replace H := bs H
       obtain ⟨⟨t526, t527, t530, t531, t532, t535, t536, t537⟩, A9, H⟩ := H
       try dsimp only at H
       by_cases c10 : x5_1.length < 1172812402961
       ·rw [if_pos c10] at H
        have LMc10 := ak c10
        clear c10
        obtain ⟨y538, hy538⟩ : ∃ y_ : List (S61), y_ = (x5_1 ++ [(⟨t526, t527, (⟨(⟨t530, t531, t532, t535⟩ : S57), t536, t537⟩ : S59)⟩ : S61)]) := ⟨_, rfl⟩
        replace H : (impl_forget.l0 k1 a1 y538 l0 (l0.length : Int) (wrap64 (x10_1 + 1))) = some r := by first | (rw [hy538]; with_reducible exact H) | (have H2_ := (Option.bind_some _ _).symm.trans H; rw [hy538]; with_reducible exact H2_) | (have H2_ := (Option.bind_some _ _).symm.trans H; with_reducible exact H2_) | with_reducible exact H | (rw [hy538]; exact H) | exact H
        have Ny538 := ak hy538
        clear hy538
        have H' := ak H
        clear H
        have p524 : 0 ≤ (x10_1 : Int) := od
        have q524 : x10_1 < (l0.length : Int) := od
        obtain ⟨ad524, A524_1, c524_1, A524_4, c524_4, e524, hx524_0, hx524_1, hx524_2, hx524_3, hx524_4, hx524_5, hx524_6, hx524_7, hl524_1, hi524_1, hl524_4, hi524_4⟩ := at_T61 HR0.out x10_1 p524 q524
        cases e524
        replace hx524_0 := (HB.out.cell (World.block_lt_of_cell? w _ hx524_0)).trans hx524_0
        replace hx524_1 := (HB.out.cell (World.block_lt_of_cell? w _ hx524_1)).trans hx524_1
        replace hx524_2 := (HB.out.cell (World.block_lt_of_cell? w _ hx524_2)).trans hx524_2
        replace hx524_3 := (HB.out.cell (World.block_lt_of_cell? w _ hx524_3)).trans hx524_3
        replace hx524_4 := (HB.out.cell (World.block_lt_of_cell? w _ hx524_4)).trans hx524_4
        replace hx524_5 := (HB.out.cell (World.block_lt_of_cell? w _ hx524_5)).trans hx524_5
        replace hx524_6 := (HB.out.cell (World.block_lt_of_cell? w _ hx524_6)).trans hx524_6
        replace hx524_7 := (HB.out.cell (World.block_lt_of_cell? w _ hx524_7)).trans hx524_7
        have HR524_1 := ak hi524_1
        have HC524_1 := ak hl524_1
        clear hi524_1 hl524_1
        have HR524_4 := ak hi524_4
        have HC524_4 := ak hl524_4
        clear hi524_4 hl524_4
        replace p524 := eq_true p524
        replace q524 := eq_true q524
        go_wp2_with (first | ((with_reducible refine gd 7 ?_); refine bE 7 #[.string (⟨#[]⟩ : ByteArray), .slice none 0 0, .int .i64 0, .string (⟨#[]⟩ : ByteArray), .slice none 0 0, .string (⟨#[]⟩ : ByteArray), .int .i64 0, .int .i64 0] 61 ?_; intro gb525 hg w11 hbox hb; replace HO_5 := ak (Kd.S_below (Kd.S_elderB (by (with_reducible repeat (first | apply Kd.S_alloc | apply Kd.S_drewN | apply Kd.S_drew)); exact HO_5.out) gb525 (Nat.le_of_eq hg.symm)) hb); have BK525 := ak hbox; have GW525 := gs hg (bl HB.out); have GE525 := gs hg (bl HB.out); replace HB := ak (below_step (bl HB.out) hb); clear hb hbox hg; obtain ⟨_, _, _, _, _, _, _, _, _, _, _, _, _, _, _, _⟩ := b8 BK525.out) | ((with_reducible refine gc 87 ?_); refine gL 87 Tryz.func87 (some 20) #[.agg #[.string ((rd_T61 l0 x10_1).f0), .slice A524_1 ((rd_T61 l0 x10_1).f1).length c524_1, .int .i64 ((rd_T61 l0 x10_1).f2.f0.f0), .string ((rd_T61 l0 x10_1).f2.f0.f1), .slice A524_4 ((rd_T61 l0 x10_1).f2.f0.f2).length c524_4, .string ((rd_T61 l0 x10_1).f2.f0.f3), .int .i64 ((rd_T61 l0 x10_1).f2.f1), .int .i64 ((rd_T61 l0 x10_1).f2.f2)]] ?_; (with_reducible refine (impl_Item_own.calls ((rd_T61 l0 x10_1).f0) _ _ ((rd_T61 l0 x10_1).f1) ((rd_T61 l0 x10_1).f2.f0.f0) ((rd_T61 l0 x10_1).f2.f0.f1) _ _ ((rd_T61 l0 x10_1).f2.f0.f2) ((rd_T61 l0 x10_1).f2.f0.f3) ((rd_T61 l0 x10_1).f2.f1) ((rd_T61 l0 x10_1).f2.f2) t526 t527 t530 t531 t532 t535 t536 t537 _ ?side1 ?side2 ?side3 ?side4 A9.out).mono ?_); (case side1 => exact Kd.C_below HR524_1.out (bl1 HB.out GE525.out)); (case side2 => exact HC524_1.out); (case side3 => exact Kd.C_below HR524_4.out (bl1 HB.out GE525.out)); (case side4 => exact HC524_4.out); rintro e w13 ⟨v528, v533, rfl, ho0, ho1, hb⟩; refine ⟨_, rfl, ?_⟩; replace HO_5 := ak (Kd.S_mono (Kd.S_told (Kd.S_told (Kd.S_old (by (with_reducible repeat (first | apply Kd.S_alloc | apply Kd.S_drewN | apply Kd.S_drew)); exact (Kd.S_mono (Kd.S_far (p := ⟨gb525, 7, none⟩) (Kd.S_far (p := ⟨gb525, 6, none⟩) (Kd.S_far (p := ⟨gb525, 5, none⟩) (Kd.S_far (p := ⟨gb525, 4, none⟩) (Kd.S_far (p := ⟨gb525, 3, none⟩) (Kd.S_far (p := ⟨gb525, 2, none⟩) (Kd.S_far (p := ⟨gb525, 1, none⟩) (Kd.S_far (p := ⟨gb525, 0, none⟩) (Kd.S_mono HO_5.out (fun k_ hk => (⟨hk, hk.2⟩ : _ ∧ k_ ≠ gb525))) (fun _ hk => hk.2) (.string ((rd_T61 l0 x10_1).f0))) (fun _ hk => hk.2) (.slice A524_1 ((rd_T61 l0 x10_1).f1).length c524_1)) (fun _ hk => hk.2) (.int .i64 ((rd_T61 l0 x10_1).f2.f0.f0))) (fun _ hk => hk.2) (.string ((rd_T61 l0 x10_1).f2.f0.f1))) (fun _ hk => hk.2) (.slice A524_4 ((rd_T61 l0 x10_1).f2.f0.f2).length c524_4)) (fun _ hk => hk.2) (.string ((rd_T61 l0 x10_1).f2.f0.f3))) (fun _ hk => hk.2) (.int .i64 ((rd_T61 l0 x10_1).f2.f1))) (fun _ hk => hk.2) (.int .i64 ((rd_T61 l0 x10_1).f2.f2))) (fun _ h_ => h_.1))) hb) (Kd.R_base ho0)) (Kd.R_base ho1)) (fun _ h_ => h_.1)); have HO529 := ak (Kd.R_lower ho0 (below_size (bl1 HB.out GE525.out))); have HO534 := ak (Kd.R_lower ho1 (below_size (bl1 HB.out GE525.out))); replace BK525 := ak (blk_below (g := gb525) (o := .cells #[.string ((rd_T61 l0 x10_1).f0), .slice A524_1 ((rd_T61 l0 x10_1).f1).length c524_1, .int .i64 ((rd_T61 l0 x10_1).f2.f0.f0), .string ((rd_T61 l0 x10_1).f2.f0.f1), .slice A524_4 ((rd_T61 l0 x10_1).f2.f0.f2).length c524_4, .string ((rd_T61 l0 x10_1).f2.f0.f3), .int .i64 ((rd_T61 l0 x10_1).f2.f1), .int .i64 ((rd_T61 l0 x10_1).f2.f2)] 61 (0, 0)) (bq BK525.out) hb); replace HB := ak (below_step (bl1 HB.out GE525.out) hb); clear hb ho0 ho1; obtain ⟨Ao15, co15, eo15⟩ := Kd.R_slice HO529.out; subst eo15; obtain ⟨Ao16, co16, eo16⟩ := Kd.R_slice HO534.out; subst eo16) | ((with_reducible refine gate_builtin (b := .append) (xs := #[.tmp 18, .tmp 21]) rfl ?_); at_builtin; refine Kd.S_append k61 (w0 := w) w.heap.size rfl (.tmp 18) (.tmp 21) 30 61 (.agg #[(.string ⟨#[]⟩), (.slice none 0 0), (.int .i64 0), (.string ⟨#[]⟩), (.slice none 0 0), (.string ⟨#[]⟩), (.int .i64 0), (.int .i64 0)]) 120 rfl Tryz.underlying30 info61 rfl (by decide) (by omega) u5 x5_1 (⟨t526, t527, (⟨(⟨t530, t531, t532, t535⟩ : S57), t536, t537⟩ : S59)⟩ : S61) [.string t526, .slice Ao15 t527.length co15, .int .i64 t530, .string t531, .slice Ao16 t532.length co16, .string t535, .int .i64 t536, .int .i64 t537] (fun k_ => k_ ≠ gb525) (fun k_ => some k_ = (.slice Ao15 t527.length co15 : Value).ownBlock ∨ some k_ = (.slice Ao16 t532.length co16 : Value).ownBlock) rfl rfl ?aP (fun k_ hk_ => hk_.elim (fun h_ => ((Kd.R_mono (ok' := fun k_ => ((fun k_ => k_ ≠ gb525)) k_ ∧ some k_ ≠ (u5 : Value).ownBlock) (Kd.R_types (Kd.R_apart' (HO529.out) (Kd.S_typed HO_5.out) (by decide)) BK525.out (by decide)) (fun k_ hk => ⟨hk.2, hk.1.2⟩))).1 k_ h_.symm) (fun h_ => ((Kd.R_mono (ok' := fun k_ => ((fun k_ => k_ ≠ gb525)) k_ ∧ some k_ ≠ (u5 : Value).ownBlock) (Kd.R_types (Kd.R_apart' (HO534.out) (Kd.S_typed HO_5.out) (by decide)) BK525.out (by decide)) (fun k_ hk => ⟨hk.2, hk.1.2⟩))).1 k_ h_.symm)) ?aF ?aO ?aB ?aS ?aL ?_; (case aP => exact k61_mkM _ _ _ (⟨t526, t527, (⟨(⟨t530, t531, t532, t535⟩ : S57), t536, t537⟩ : S59)⟩ : S61) (Kd.R_mono (Kd.R_tight rfl (Kd.R_mono (ok' := fun k_ => ((fun k_ => k_ ≠ gb525)) k_ ∧ some k_ ≠ (u5 : Value).ownBlock) (Kd.R_types (Kd.R_apart' (HO529.out) (Kd.S_typed HO_5.out) (by decide)) BK525.out (by decide)) (fun k_ hk => ⟨hk.2, hk.1.2⟩))) (fun _ h_ => Or.inl h_)) (Kd.R_mono (Kd.R_tight rfl (Kd.R_mono (ok' := fun k_ => ((fun k_ => k_ ≠ gb525)) k_ ∧ some k_ ≠ (u5 : Value).ownBlock) (Kd.R_types (Kd.R_apart' (HO534.out) (Kd.S_typed HO_5.out) (by decide)) BK525.out (by decide)) (fun k_ hk => ⟨hk.2, hk.1.2⟩))) (fun _ h_ => Or.inr (h_)))); (case aB => exact (bl1 HB.out GE525.out)); (case aF => exact (fun k_ hk => Kd.freshB (bk BK525.out) k_ hk)); (case aO => exact (by (with_reducible repeat (first | apply Kd.S_alloc | apply Kd.S_drewN | apply Kd.S_drew)); exact Kd.S_mono HO_5.out (fun k_ hk => ⟨hk.1.1.2, fun e_ => e_.elim (fun h_ => hk.1.2 h_) (fun h_ => hk.2 h_)⟩))); (case aS => exact (below_size (bl1 HB.out GE525.out))); (case aL => have := LMc10.out; omega); intro v539 w14 ho hb hg hat; rw [← Ny538.out] at ho; replace BK525 := ak (blk_grown (bk BK525.out) hg (Kd.S_away HO_5.out (fun _ hk => hk.1.1.2))); replace HB := ak hb; have HO540 := ak ho; clear HO_5 HO529 HO534; clear ho hb hg hat))
        go_roundg k1
        case measure => have := HK1.out; omega
        case rel => exact ⟨(y538), (wrap64 (x10_1 + 1)), (by first | rfl | (simp; done) | (simp [*]; done)), H', ⟨by have := HK1.out; omega⟩, ⟨by (with_reducible repeat (first | apply Kd.S_alloc | apply Kd.S_drewN | apply Kd.S_drew)); exact Kd.S_mono HO540.out (fun _ hk => trivial)⟩, ⟨bl1 HB.out GE525.out⟩⟩
       ·rw [if_neg c10] at H
        exact absurd H (by simp)
     ·rw [if_neg c5] at H
      exact absurd H (by simp)
    ·rw [if_neg c4] at H
     exact absurd H (by simp)
   ·rw [if_neg c3] at H
    have c3b0 := decide_eq_false c3
    clear c3
    obtain rfl := Option.some.inj H
    go_wp2
    go_ret
    exact ⟨_, by first | rfl | (simp [errW_none, errW_some] <;> rfl) | (simp [*, errW_none, errW_some] <;> rfl), by (with_reducible repeat (first | apply Kd.S_alloc | apply Kd.S_drewN | apply Kd.S_drew)); exact HO_5.out, bl HB.out⟩

/-! ### impl_KeptFor: function 14 -/
def impl_KeptFor.f (k : Nat) (a0_0 : ByteArray) (a0_1 : ByteArray) (a0_2 : Int) (a0_3 : ByteArray) (a0_4 : ByteArray) (a0_5 : Bool) (a0_6 : Int) (l0_7 : List (S61)) (a1 : ByteArray) : Option (Int × Bool) := (impl_GoodGateway.f k a0_0 a0_1 a0_2 a0_3 a0_4 a0_5 a0_6 l0_7).bind fun t542 => (if t542 = true then ((impl_forget.f k l0_7 a1).bind fun t543 => (some (wrap64 ((l0_7.length : Int) - (t543.length : Int)), true))) else (some (0, false)))
theorem impl_KeptFor.mono : ∀ a0 a1 a2 a3 a4 a5 a6 a7 a8 k, LeO (impl_KeptFor.f k a0 a1 a2 a3 a4 a5 a6 a7 a8) (impl_KeptFor.f (k + 1) a0 a1 a2 a3 a4 a5 a6 a7 a8) := by
 intro a0 a1 a2 a3 a4 a5 a6 a7 a8 k
 unfold impl_KeptFor.f
 repeat' with_reducible first | exact impl_GoodGateway.mono _ _ _ _ _ _ _ _ _ | exact impl_forget.mono _ _ _ | exact LeO.refl _ | exact LeO.none _ | refine LeO.ite ?_ ?_ | refine LeO.bind ?_ (fun _ => ?_)
def impl_KeptFor.T3 : Bool × List (List Nat × List Nat) := (true, [([], []), ([0], [0]), ([1], [1]), ([], []), ([3], [3]), ([], []), ([4, 5], [4, 5]), ([6], [6]), ([2, 7], [2, 7]), ([8, 6, 0, 1, 2, 3, 4, 5, 6, 7, 8], [8]), ([9, 0, 1, 2, 3, 4, 5, 6, 7, 8, 9], [])])
def impl_KeptFor.B3 : List Nat := [0, 1, 3, 0, 8, 0, 56, 120, 255, 511, 1023]
theorem impl_KeptFor.tab3 : rtab .any (opsOf Tryz.f14 3) = impl_KeptFor.T3 := by kernel_rfl
theorem impl_KeptFor.bits3 : waitsOk impl_KeptFor.T3.2 impl_KeptFor.B3 = true := by kernel_rfl
set_option maxHeartbeats 8000000 in
set_option maxRecDepth 100000 in
theorem impl_KeptFor.calls (k : Nat) (a0_0 : ByteArray) (a0_1 : ByteArray) (a0_2 : Int) (a0_3 : ByteArray) (a0_4 : ByteArray) (a0_5 : Bool) (a0_6 : Int) (A0_7 : Option Addr) (c0_7 : Nat) (l0_7 : List (S61)) (a1 : ByteArray) (r1 : Int) (r2 : Bool) (w : World) (hr0_7 : Kd.C k61 w A0_7 l0_7.length l0_7) (hc0_7 : l0_7.length ≤ c0_7) (h : impl_KeptFor.f k a0_0 a0_1 a0_2 a0_3 a0_4 a0_5 a0_6 l0_7 a1 = some (r1, r2)) (ht : Glob w) :
  Calls Tryz.prog 14 #[.agg #[.string a0_0, .string a0_1, .int .i64 a0_2, .string a0_3, .string a0_4, .bool a0_5, .int .i64 a0_6, .slice A0_7 l0_7.length c0_7], .string a1] w fun e w' => e = .returned (.tuple #[.int .i64 r1, .bool r2]) ∧ Below w.heap.size w w' := by
 have hu32 := Tryz.underlying32
 have HR0_7 := ak hr0_7
 have HC0_7 := ak hc0_7
 clear hr0_7 hc0_7
 have HT := ak ht
 clear ht
 have HB := ak (Below.refl w.heap.size w)
 unfold impl_KeptFor.f at h; have H := h
 clear h
 replace H := bs H
 obtain ⟨t542, A3, H⟩ := H
 try dsimp only at H
 by_cases c4 : t542 = true
 ·subst c4
  rw [if_pos rfl] at H
  replace H := bs H
  obtain ⟨t543, A5, H⟩ := H
  try dsimp only at H
  simp only [Option.some.injEq, Prod.mk.injEq] at H
  obtain ⟨rfl, rfl⟩ := H
  go_enter Tryz.func14, Tryz.ntmps14
  try go_wp2_with (first | ((with_reducible refine gd 2 ?_); refine bE 2 #[.string a0_0, .string a0_1, .int .i64 a0_2, .string a0_3, .string a0_4, .bool a0_5, .int .i64 a0_6, .slice A0_7 l0_7.length c0_7] 32 ?_; intro gb541 hg w6 hbox hb; have BK541 := ak hbox; have GW541 := gs hg (bl HB.out); have GE541 := gs hg (bl HB.out); replace HB := ak (below_step (bl HB.out) hb); clear hb hbox hg; obtain ⟨_, _, _, _, _, _, _, _, _, _, _, _, _, _, _, _⟩ := b8 BK541.out) | ((with_reducible refine gc 11 ?_); refine gL 11 Tryz.func11 (some 7) #[.agg #[.string a0_0, .string a0_1, .int .i64 a0_2, .string a0_3, .string a0_4, .bool a0_5, .int .i64 a0_6, .slice A0_7 l0_7.length c0_7]] ?_; (with_reducible refine (impl_GoodGateway.calls k a0_0 a0_1 a0_2 a0_3 a0_4 a0_5 a0_6 _ _ l0_7 true _ ?side1 ?side2 A3.out (globg HT.out (bl1 HB.out GE541.out))).mono ?_); (case side1 => exact kc (Kd.C_below HR0_7.out HB.out)); (case side2 => exact HC0_7.out); rintro e w8 ⟨rfl, hb⟩; refine ⟨_, rfl, ?_⟩; replace BK541 := ak (blk_below (bk BK541.out) hb); replace HB := ak (below_step (bl1 HB.out GE541.out) hb); clear hb))
  replace BK541 := ak (blk_drew BK541.out)
  replace HB := ak (below_drew1 HB.out)
  refine start_ (n := 11) (S := fun w' => w'.cell? ⟨gb541, 0, none⟩ = some (.string a0_0) ∧ w'.cell? ⟨gb541, 1, none⟩ = some (.string a0_1) ∧ w'.cell? ⟨gb541, 2, none⟩ = some (.int .i64 a0_2) ∧ w'.cell? ⟨gb541, 3, none⟩ = some (.string a0_3) ∧ w'.cell? ⟨gb541, 4, none⟩ = some (.string a0_4) ∧ w'.cell? ⟨gb541, 5, none⟩ = some (.bool a0_5) ∧ w'.cell? ⟨gb541, 6, none⟩ = some (.int .i64 a0_6) ∧ w'.cell? ⟨gb541, 7, none⟩ = some (.slice A0_7 l0_7.length c0_7)) (ds := []) #[false, false, false, false, false, false, false, false, false, false, false] (by kernel_rfl) rfl rfl ⟨bc0 BK541.out, bc1 BK541.out, bc2 BK541.out, bc3 BK541.out, bc4 BK541.out, bc5 BK541.out, bc6 BK541.out, bc7 BK541.out⟩ (fun hHeld => ?_); refine with_tabW impl_KeptFor.tab3 impl_KeptFor.bits3 (fun HT_ HW_ => ?_)
  generalize w8.drew = w9 at BK541 HB hHeld ⊢
  refine pu 0 (some 9) HT_ ?_
  refine pu 3 (some 12) HT_ ?_
  refine pu 5 (some 14) HT_ ?_
  refine tk 1 (some 10) HT_ HW_ hHeld ?_
  refine pu 2 (some 11) HT_ ?_
  refine tk 4 (some 13) HT_ HW_ hHeld ?_
  refine on 6 (some 15) HT_ (fun K hK => ?_)
  refine gO Tryz.func46 #[.slice A0_7 l0_7.length c0_7, .string a1] ?_
  with_reducible refine (impl_forget.calls k _ _ l0_7 a1 t543 _ ?side1 ?side2 A5.out).mono ?_
  (case side1 => exact kc (Kd.C_below HR0_7.out HB.out))
  (case side2 => exact HC0_7.out)
  rintro e w10 ⟨v544, rfl, ho0, hb⟩
  refine ⟨_, rfl, ?_⟩
  have HO545 := ak (Kd.S_lower ho0 (below_size (bl1 HB.out GE541.out)))
  replace BK541 := ak (blk_below (bk BK541.out) hb)
  replace HB := ak (below_step (bl1 HB.out GE541.out) hb)
  clear hb
  clear ho0
  obtain ⟨Ao11, co11, eo11⟩ := Kd.S_slice HO545.out
  (first | subst eo11 | (injection eo11 with f1_ f2_ f3_; have f4_ := f1_.symm; have f5_ := f3_.symm; clear f1_ f2_ f3_; subst f4_; subst f5_))
  refine hK.out _ _ ⟨bc0 BK541.out, bc1 BK541.out, bc2 BK541.out, bc3 BK541.out, bc4 BK541.out, bc5 BK541.out, bc6 BK541.out, bc7 BK541.out⟩ (fun hHeld => ?_)
  clear hK K
  refine nr (some 15) ?_
  refine pu 7 (some 16) HT_ ?_
  refine pu 8 (some 17) HT_ ?_
  refine pu 9 (some 4) HT_ ?_
  refine pu 10 (some 5) HT_ ?_
  refine done_ (done_of HT_.out (by kernel_rfl)) ?_
  try go_wp2
  go_ret2
  exact rz (bl1 HB.out GE541.out)
 ·replace c4 := Bool.eq_false_iff.mpr c4
  subst c4
  rw [if_neg ff] at H
  simp only [Option.some.injEq, Prod.mk.injEq] at H
  obtain ⟨rfl, rfl⟩ := H
  go_enter Tryz.func14, Tryz.ntmps14
  go_wp2_with (first | ((with_reducible refine gd 2 ?_); refine bE 2 #[.string a0_0, .string a0_1, .int .i64 a0_2, .string a0_3, .string a0_4, .bool a0_5, .int .i64 a0_6, .slice A0_7 l0_7.length c0_7] 32 ?_; intro gb541 hg w12 hbox hb; have BK541 := ak hbox; have GW541 := gs hg (bl HB.out); have GE541 := gs hg (bl HB.out); replace HB := ak (below_step (bl HB.out) hb); clear hb hbox hg; obtain ⟨_, _, _, _, _, _, _, _, _, _, _, _, _, _, _, _⟩ := b8 BK541.out) | ((with_reducible refine gc 11 ?_); refine gL 11 Tryz.func11 (some 7) #[.agg #[.string a0_0, .string a0_1, .int .i64 a0_2, .string a0_3, .string a0_4, .bool a0_5, .int .i64 a0_6, .slice A0_7 l0_7.length c0_7]] ?_; (with_reducible refine (impl_GoodGateway.calls k a0_0 a0_1 a0_2 a0_3 a0_4 a0_5 a0_6 _ _ l0_7 false _ ?side1 ?side2 A3.out (globg HT.out (bl1 HB.out GE541.out))).mono ?_); (case side1 => exact kc (Kd.C_below HR0_7.out HB.out)); (case side2 => exact HC0_7.out); rintro e w14 ⟨rfl, hb⟩; refine ⟨_, rfl, ?_⟩; replace BK541 := ak (blk_below (bk BK541.out) hb); replace HB := ak (below_step (bl1 HB.out GE541.out) hb); clear hb))
  go_ret2
  exact rz (bl1 HB.out GE541.out)

end Go.Proofs.YtlmnmakkojgfnaaGreatDoor.PFnExactKeptFor
