-- written by a program of this session (wip/tool)
import Derived.Test.YtfopmaiednikhaaPFnExactPlaySegmentedx0
import Derived.Test.YtfopmaiednikhaaPFnExactPlaySegmentedx2
import Derived.Test.YtfopmaiednikhaaVOwn0
import Derived.Test.YtfopmaiednikhaaVOwnOpen
import Derived.WalkKit
import Derived.BigCall
import Derived.Lib.SliceRun
import Derived.Deep.RegionLaw
import Derived.Maps.OwnSet
import Derived.Maps.OwnOps
import Derived.Maps.Views
import Derived.Test.YtfopmaiednikhaaVWZeros
import Derived.Test.YtfopmaiednikhaaVWArr
import Derived.Test.YtfopmaiednikhaaVOwnShort
namespace Go.Proofs.Ytfopmaiednikhaa.PFnExactPlaySegmented
open Go.RowKit Go.Proofs.YtfopmaiednikhaaW.PrintWords Go.Proofs.YtfopmaiednikhaaW.PrintLast Go.Proofs.YtfopmaiednikhaaW.PrintMore Go.Shelf Go.Proofs.YtfopmaiednikhaaOwn
attribute [local go_sem] max2_int min2_int max_two min_two max_three min_three max_four min_four   -- for this text's walks alone
set_option linter.unusedVariables false
set_option linter.unusedSimpArgs false

/-! ### impl_Segmented_own: function 45 -/
def impl_Segmented_own.f (a0_0 : Int) (a0_1 : Int) (l0_2 : List (S45)) (l0_3 : List (S45)) : Option (Int × Int × (List (S45)) × (List (S45))) := (slices_CloneE.f l0_2).bind fun t131 => ((slices_CloneE.f l0_3).bind fun t134 => (some (a0_0, a0_1, t131, t134)))
def impl_Segmented_own.T1 : Bool × List (List Nat × List Nat) := (true, [([], []), ([0], [0]), ([1], [1]), ([], []), ([3], [3]), ([4, 2], [4]), ([0, 1, 2, 3, 4], []), ([6, 2, 5, 0, 1, 2, 3, 4], [2, 6]), ([0, 1, 2, 3, 4, 5, 6, 7], []), ([8, 5, 7, 0, 1, 2, 3, 4, 5, 6, 7], [5, 8])])
def impl_Segmented_own.B1 : List Nat := [0, 1, 3, 0, 8, 31, 31, 127, 255, 511]
theorem impl_Segmented_own.tab1 : rtab .any (opsOf Try.f45 1) = impl_Segmented_own.T1 := by kernel_rfl
theorem impl_Segmented_own.bits1 : waitsOk impl_Segmented_own.T1.2 impl_Segmented_own.B1 = true := by kernel_rfl
set_option maxHeartbeats 8000000 in
set_option maxRecDepth 100000 in
theorem impl_Segmented_own.calls (a0_0 : Int) (a0_1 : Int) (A0_2 : Option Addr) (c0_2 : Nat) (l0_2 : List (S45)) (A0_3 : Option Addr) (c0_3 : Nat) (l0_3 : List (S45)) (r1 : Int) (r2 : Int) (r3 : List (S45)) (r4 : List (S45)) (w : World) (hr0_2 : Kd.C k45 w A0_2 l0_2.length l0_2) (hc0_2 : l0_2.length ≤ c0_2) (hr0_3 : Kd.C k45 w A0_3 l0_3.length l0_3) (hc0_3 : l0_3.length ≤ c0_3) (h : impl_Segmented_own.f a0_0 a0_1 l0_2 l0_3 = some (r1, r2, r3, r4)) :
  Calls Try.prog 45 #[.agg #[.int .i64 a0_0, .int .i64 a0_1, .slice A0_2 l0_2.length c0_2, .slice A0_3 l0_3.length c0_3]] w fun e w' => ∃ v2_ v3_ : Value, e = .returned (.agg #[.int .i64 r1, .int .i64 r2, v2_, v3_]) ∧ Kd.R k45 45 w' w.heap.size (fun k_ => some k_ ≠ (v3_ : Value).ownBlock) v2_ r3 ∧ Kd.R k45 45 w' w.heap.size (fun k_ => some k_ ≠ (v2_ : Value).ownBlock) v3_ r4 ∧ Below w.heap.size w w' := by
 have hu28 := Try.underlying28
 have HR0_2 := Aside0.mk hr0_2
 have HC0_2 := Aside0.mk hc0_2
 clear hr0_2 hc0_2
 have HR0_3 := Aside0.mk hr0_3
 have HC0_3 := Aside0.mk hc0_3
 clear hr0_3 hc0_3
 have HB := Aside0.mk (Below.refl w.heap.size w)
 have H : ((slices_CloneE.f l0_2).bind fun t131 => ((slices_CloneE.f l0_3).bind fun t134 => (some (a0_0, a0_1, t131, t134)))) = some (r1, r2, r3, r4) := h
 clear h
 replace H := Option.bind_eq_some_iff.mp H
 obtain ⟨t131, A20, H⟩ := H
 try dsimp only at H
 have A2 := Aside0.mk A20
 clear A20
 replace H := Option.bind_eq_some_iff.mp H
 obtain ⟨t134, A30, H⟩ := H
 try dsimp only at H
 have A3 := Aside0.mk A30
 clear A30
 simp only [Option.some.injEq, Prod.mk.injEq] at H
 obtain ⟨rfl, rfl, rfl, rfl⟩ := H
 go_enter Try.func45, Try.ntmps45
 try go_wp2_with (first | ((with_reducible refine gate_dst (N := 1) rfl ?_); refine box_event ?hg (N := 1) ?hd (cs := #[.int .i64 a0_0, .int .i64 a0_1, .slice A0_2 l0_2.length c0_2, .slice A0_3 l0_3.length c0_3]) (t := 28) ?hr ?_; (case hd => rfl); (case hg => rfl); (case hr => first | (go_simp; done) | (go_simp; rfl)); intro gb129 hg w4 hbox hb; have n0_ := Aside0.mk (below_step (bl HB.out) hb); have n1_ := Aside0.mk (hbox); have n2_ := Aside0.mk ((by rw [hg]; exact (below_size (bl HB.out)) : w.heap.size ≤ gb129)); have n3_ := Aside0.mk ((by rw [hg]; exact (below_size (bl HB.out)) : w.heap.size ≤ gb129)); clear HB; have HB := n0_; have BK129 := n1_; have GW129 := n2_; have GE129 := n3_; clear n0_ n1_ n2_ n3_; clear hb hbox hg) | ((with_reducible refine gate_dst (N := 2) rfl ?_); refine box_event ?hg (N := 2) ?hd (cs := #[.int .i64 0, .int .i64 0, .slice none 0 0, .slice none 0 0]) (t := 28) ?hr ?_; (case hd => rfl); (case hg => rfl); (case hr => first | (go_simp; done) | (go_simp; rfl)); intro gb130 hg w5 hbox hb; have n0_ := Aside0.mk (blk_below (bk BK129.out) hb); have n1_ := Aside0.mk (below_step (bl1 HB.out GE129.out) hb); have n2_ := Aside0.mk (hbox); have n3_ := Aside0.mk ((by rw [hg]; exact (below_size (bl1 HB.out GE129.out)) : w.heap.size ≤ gb130)); have n4_ := Aside0.mk ((by rw [hg]; exact (below_size (bl1 HB.out GE129.out)) : w.heap.size ≤ gb130)); have n5_ := Aside0.mk ((by rw [hg]; exact Nat.ne_of_lt (blk_lt (bk BK129.out)) : gb129 ≠ gb130)); have n6_ := Aside0.mk ((by rw [hg]; exact Nat.ne_of_gt (blk_lt (bk BK129.out)) : gb130 ≠ gb129)); clear BK129; clear HB; have BK129 := n0_; have HB := n1_; have BK130 := n2_; have GW130 := n3_; have GE130 := n4_; have NB129_130 := n5_; have NB130_129 := n6_; clear n0_ n1_ n2_ n3_ n4_ n5_ n6_; clear hb hbox hg))
 have n0_ := Aside0.mk (blk_drew BK129.out)
 have n1_ := Aside0.mk (blk_drew BK130.out)
 have n2_ := Aside0.mk (below_drew1 HB.out)
 clear BK129
 clear BK130
 clear HB
 have BK129 := n0_
 have BK130 := n1_
 have HB := n2_
 clear n0_ n1_ n2_
 refine start_ (n := 10) (S := fun w' => w'.cell? ⟨gb129, 0, none⟩ = some (.int .i64 a0_0) ∧ w'.cell? ⟨gb129, 1, none⟩ = some (.int .i64 a0_1) ∧ w'.cell? ⟨gb129, 2, none⟩ = some (.slice A0_2 l0_2.length c0_2) ∧ w'.cell? ⟨gb129, 3, none⟩ = some (.slice A0_3 l0_3.length c0_3)) (ds := [7, 9]) #[false, false, false, false, false, false, false, false, false, false] (by kernel_rfl) rfl rfl ⟨(blk_cell BK129.out 0).trans rfl, (blk_cell BK129.out 1).trans rfl, (blk_cell BK129.out 2).trans rfl, (blk_cell BK129.out 3).trans rfl⟩ (fun hHeld => ?_); refine with_tabW impl_Segmented_own.tab1 impl_Segmented_own.bits1 (fun HT_ HW_ => ?_)
 generalize w5.drew = w6 at BK129 BK130 HB hHeld ⊢
 refine pure_ (i := 0) (N := some 3) (v := ?_) (a' := ?_) #[true, false, false, false, false, false, false, false, false, false] rfl rfl (any_of HT_.out (by kernel_rfl)) (fun _ _ _ h => h) (Or.inl ⟨by rfl, ?_⟩) ?_ ?_
 rotate_left
 ·intro w'
  go_simp
  with_reducible rfl
 rotate_left
 ·simp only [Act.put, List.setIfInBounds_toArray, List.set_cons_zero, List.set_cons_succ, i64_w, i32_w]
  rfl
 refine pure_ (i := 3) (N := some 6) (v := ?_) (a' := ?_) #[true, false, false, true, false, false, false, false, false, false] rfl rfl (any_of HT_.out (by kernel_rfl)) (fun _ _ _ h => h) (Or.inl ⟨by rfl, ?_⟩) ?_ ?_
 rotate_left
 ·intro w'
  go_simp
  with_reducible rfl
 rotate_left
 ·simp only [Act.put, List.setIfInBounds_toArray, List.set_cons_zero, List.set_cons_succ, i64_w, i32_w]
  rfl
 refine take_ (i := 1) (N := some 4) (v := ?_) (a' := ?_) #[true, true, false, true, false, false, false, false, false, false] rfl rfl (take_ofW HT_.out HW_.out (by kernel_rfl)) (fun _ _ _ h => h) (Or.inl ⟨by rfl, ?_⟩) hHeld ?_ ?_
 rotate_left
 ·rintro w' ⟨s0, s1, s2, s3⟩
  go_simp
  with_reducible rfl
 rotate_left
 ·simp only [Act.put, List.setIfInBounds_toArray, List.set_cons_zero, List.set_cons_succ, i64_w, i32_w]
  rfl
 refine take_ (i := 4) (N := some 7) (v := ?_) (a' := ?_) #[true, true, false, true, true, false, false, false, false, false] rfl rfl (take_ofW HT_.out HW_.out (by kernel_rfl)) (fun _ _ _ h => h) (Or.inl ⟨by rfl, ?_⟩) hHeld ?_ ?_
 rotate_left
 ·rintro w' ⟨s0, s1, s2, s3⟩
  go_simp
  with_reducible rfl
 rotate_left
 ·simp only [Act.put, List.setIfInBounds_toArray, List.set_cons_zero, List.set_cons_succ, i64_w, i32_w]
  rfl
 refine one_ (i := 2) (N := some 5) #[true, true, true, true, true, false, false, false, false, false] rfl rfl (one_of HT_.out (by kernel_rfl)) (by decide) (fun K hK => ?_)
 refine goes_ Try.func69 (by kernel_rfl) rfl #[.slice A0_2 l0_2.length c0_2] (by rfl) rfl rfl (by (try simp only [List.map_toArray, List.map_cons, List.map_nil]); first | done | rfl | (simp only [List.length_drop, List.length_take]; rfl)) ?_
 with_reducible refine (slices_CloneE.calls _ _ l0_2 t131 _ ?side1 ?side2 A2.out).mono ?_
 (case side1 => exact kc (Kd.C_below HR0_2.out HB.out))
 (case side2 => exact HC0_2.out)
 rintro e w7 ⟨v132, rfl, ho0, hb⟩
 refine ⟨_, rfl, ?_⟩
 have n0_ := Aside0.mk (Kd.R_lower ho0 (below_size (bl2 HB.out GE129.out GE130.out)))
 have n1_ := Aside0.mk (blk_below (bk BK129.out) hb)
 have n2_ := Aside0.mk (blk_below (bk BK130.out) hb)
 have n3_ := Aside0.mk (below_step (bl2 HB.out GE129.out GE130.out) hb)
 clear BK129
 clear BK130
 clear HB
 have HO133 := n0_
 have BK129 := n1_
 have BK130 := n2_
 have HB := n3_
 clear n0_ n1_ n2_ n3_
 (try clear hb)
 (try clear hb2)
 (try clear hk)
 (try clear hi)
 (try clear ho0)
 refine hK.out _ _ ⟨(blk_cell BK129.out 0).trans rfl, (blk_cell BK129.out 1).trans rfl, (blk_cell BK129.out 2).trans rfl, (blk_cell BK129.out 3).trans rfl⟩ (fun hHeld => ?_)
 clear hK K
 refine norm_ (a' := ?_) ?_ ?_
 rotate_left
 ·show Act.put _ (some 5) _ = _
  simp only [Act.put, List.setIfInBounds_toArray, List.set_cons_zero, List.set_cons_succ, i64_w, i32_w]
  rfl
 refine pure_ (i := 6) (N := some 9) (v := ?_) (a' := ?_) #[true, true, true, true, true, false, true, false, false, false] rfl rfl (any_of HT_.out (by kernel_rfl)) (fun _ _ _ h => h) (Or.inl ⟨by rfl, ?_⟩) ?_ ?_
 rotate_left
 ·intro w'
  go_simp
  with_reducible rfl
 rotate_left
 ·simp only [Act.put, List.setIfInBounds_toArray, List.set_cons_zero, List.set_cons_succ, i64_w, i32_w]
  rfl
 refine one_ (i := 5) (N := some 8) #[true, true, true, true, true, true, true, false, false, false] rfl rfl (one_of HT_.out (by kernel_rfl)) (by decide) (fun K hK => ?_)
 refine goes_ Try.func69 (by kernel_rfl) rfl #[.slice A0_3 l0_3.length c0_3] (by rfl) rfl rfl (by (try simp only [List.map_toArray, List.map_cons, List.map_nil]); first | done | rfl | (simp only [List.length_drop, List.length_take]; rfl)) ?_
 with_reducible refine (slices_CloneE.calls _ _ l0_3 t134 _ ?side1 ?side2 A3.out).mono ?_
 (case side1 => exact kc (Kd.C_below HR0_3.out HB.out))
 (case side2 => exact HC0_3.out)
 rintro e w8 ⟨v135, rfl, ho0, hb⟩
 refine ⟨_, rfl, ?_⟩
 have n0_ := Aside0.mk (Kd.R_elder' (kr HO133.out) (Kd.R_base ho0) hb)
 have n1_ := Aside0.mk (Kd.R_lower (Kd.R_new' ho0 (Kd.R_lt (kr HO133.out))) (below_size (bl2 HB.out GE129.out GE130.out)))
 have n2_ := Aside0.mk (blk_below (bk BK129.out) hb)
 have n3_ := Aside0.mk (blk_below (bk BK130.out) hb)
 have n4_ := Aside0.mk (below_step (bl2 HB.out GE129.out GE130.out) hb)
 clear HO133
 clear BK129
 clear BK130
 clear HB
 have HO133 := n0_
 have HO136 := n1_
 have BK129 := n2_
 have BK130 := n3_
 have HB := n4_
 clear n0_ n1_ n2_ n3_ n4_
 (try clear hb)
 (try clear hb2)
 (try clear hk)
 (try clear hi)
 (try clear ho0)
 obtain ⟨Ao9, co9, eo9⟩ := Kd.R_slice HO133.out
 (first | subst eo9 | (injection eo9 with f1_ f2_ f3_; have f4_ := f1_.symm; have f5_ := f3_.symm; clear f1_ f2_ f3_; subst f4_; subst f5_))
 obtain ⟨Ao11, co11, eo11⟩ := Kd.R_slice HO136.out
 (first | subst eo11 | (injection eo11 with f1_ f2_ f3_; have f4_ := f1_.symm; have f5_ := f3_.symm; clear f1_ f2_ f3_; subst f4_; subst f5_))
 refine hK.out _ _ ⟨(blk_cell BK129.out 0).trans rfl, (blk_cell BK129.out 1).trans rfl, (blk_cell BK129.out 2).trans rfl, (blk_cell BK129.out 3).trans rfl⟩ (fun hHeld => ?_)
 clear hK K
 refine norm_ (a' := ?_) ?_ ?_
 rotate_left
 ·show Act.put _ (some 8) _ = _
  simp only [Act.put, List.setIfInBounds_toArray, List.set_cons_zero, List.set_cons_succ, i64_w, i32_w]
  rfl
 refine last_ (i := 7) (N := none) #[true, true, true, true, true, true, true, true, false, false] rfl rfl (one_of HT_.out (by kernel_rfl)) (by decide) (fun K hK => ?_)
 have hs10 := bc2 BK129.out
 have hfs10 := blk_frozen BK129.out 2
 have hns10_1 := NB130_129.out
 have hms10_1 := NB129_130.out
 refine skip_ (w1 := ?_) (by rfl) rfl ?_ ?_
 rotate_left
 ·go_simp
  rfl
 refine hK.out _ _ ?_
 clear hK K
 refine pure_ (i := 8) (N := some 10) (v := ?_) (a' := ?_) #[true, true, true, true, true, true, true, true, true, false] rfl rfl (any_of HT_.out (by kernel_rfl)) (fun _ _ _ h => h) (Or.inl ⟨by rfl, ?_⟩) ?_ ?_
 rotate_left
 ·intro w'
  go_simp
  with_reducible rfl
 rotate_left
 ·simp only [Act.put, List.setIfInBounds_toArray, List.set_cons_zero, List.set_cons_succ, i64_w, i32_w]
  rfl
 refine last_ (i := 9) (N := none) #[true, true, true, true, true, true, true, true, true, true] rfl rfl (one_of HT_.out (by kernel_rfl)) (by decide) (fun K hK => ?_)
 have hs12 := bc3 BK129.out
 have hfs12 := blk_frozen BK129.out 3
 have hns12_1 := NB130_129.out
 have hms12_1 := NB129_130.out
 refine skip_ (w1 := ?_) (by rfl) rfl ?_ ?_
 rotate_left
 ·go_simp
  rfl
 refine hK.out _ _ ?_
 clear hK K
 refine done_ (done_of HT_.out (by kernel_rfl)) ?_
 have hnb13 := NB129_130.out
 have hnc13 := NB130_129.out
 have hcz14_0 := bc0 BK129.out
 have hcz14_1 := bc1 BK129.out
 have hcz14_2 := bc2 BK129.out
 have hcz14_3 := bc3 BK129.out
 have hfz14_0 := blk_frozen BK129.out 0
 have hfz14_1 := blk_frozen BK129.out 1
 have hfz14_2 := blk_frozen BK129.out 2
 have hfz14_3 := blk_frozen BK129.out 3
 have hcz15_0 := bc0 BK130.out
 have hcz15_1 := bc1 BK130.out
 have hcz15_2 := bc2 BK130.out
 have hcz15_3 := bc3 BK130.out
 have hfz15_0 := blk_frozen BK130.out 0
 have hfz15_1 := blk_frozen BK130.out 1
 have hfz15_2 := blk_frozen BK130.out 2
 have hfz15_3 := blk_frozen BK130.out 3
 try go_wp2
 refine bodyPost_ret (results_cell_row rfl _ _ gb130 28 #[.int .i64 a0_0, .int .i64 a0_1, .slice Ao9 t131.length co9, .slice Ao11 t134.length co11] (0, 0) _ rfl (by (with_reducible repeat (first | refine blk_drewN ?_ _ | refine blk_drew ?_ | refine blk_alloc ?_ _)); refine blk_put (cs := #[.int .i64 a0_0, .int .i64 a0_1, .slice Ao9 t131.length co9, .slice none 0 0]) ?_ 3 _ rfl; (with_reducible repeat (first | refine blk_drewN ?_ _ | refine blk_drew ?_ | refine blk_alloc ?_ _)); refine blk_put (cs := #[.int .i64 a0_0, .int .i64 a0_1, .slice none 0 0, .slice none 0 0]) ?_ 2 _ rfl; (with_reducible repeat (first | refine blk_drewN ?_ _ | refine blk_drew ?_ | refine blk_alloc ?_ _)); refine blk_put (cs := #[.int .i64 a0_0, .int .i64 0, .slice none 0 0, .slice none 0 0]) ?_ 1 _ rfl; (with_reducible repeat (first | refine blk_drewN ?_ _ | refine blk_drew ?_ | refine blk_alloc ?_ _)); refine blk_put (cs := #[.int .i64 0, .int .i64 0, .slice none 0 0, .slice none 0 0]) ?_ 0 _ rfl; (with_reducible repeat (first | refine blk_drewN ?_ _ | refine blk_drew ?_ | refine blk_alloc ?_ _)); refine blk_far ?_ NB130_129.out _; (with_reducible repeat (first | refine blk_drewN ?_ _ | refine blk_drew ?_ | refine blk_alloc ?_ _)); refine blk_far ?_ NB130_129.out _; exact bk BK130.out) Try.underlying28 rfl (by kernel_rfl)) rfl ?_
 exact ⟨_, _, by first | rfl | (simp [errW_none, errW_some] <;> rfl) | (simp [*, errW_none, errW_some] <;> rfl), by (with_reducible repeat (first | apply Kd.R_alloc | apply Kd.R_drewN | apply Kd.R_drew)); exact Kd.R_mono (Kd.R_far (p := ⟨gb130, 3, none⟩) (Kd.R_far (p := ⟨gb130, 2, none⟩) (Kd.R_far (p := ⟨gb130, 1, none⟩) (Kd.R_far (p := ⟨gb130, 0, none⟩) (Kd.R_far (p := ⟨gb129, 3, none⟩) (Kd.R_far (p := ⟨gb129, 2, none⟩) (Kd.R_types (Kd.R_types HO133.out BK129.out (by decide)) BK130.out (by decide)) (fun _ hk => hk.1.2) (.slice Ao9 t131.length co9)) (fun _ hk => hk.1.2) (.slice Ao11 t134.length co11)) (fun _ hk => hk.2) (.int .i64 a0_0)) (fun _ hk => hk.2) (.int .i64 a0_1)) (fun _ hk => hk.2) (.slice Ao9 t131.length co9)) (fun _ hk => hk.2) (.slice Ao11 t134.length co11)) (fun _ hk => hk.1.1.2), by (with_reducible repeat (first | apply Kd.R_alloc | apply Kd.R_drewN | apply Kd.R_drew)); exact Kd.R_mono (Kd.R_far (p := ⟨gb130, 3, none⟩) (Kd.R_far (p := ⟨gb130, 2, none⟩) (Kd.R_far (p := ⟨gb130, 1, none⟩) (Kd.R_far (p := ⟨gb130, 0, none⟩) (Kd.R_far (p := ⟨gb129, 3, none⟩) (Kd.R_far (p := ⟨gb129, 2, none⟩) (Kd.R_types (Kd.R_types HO136.out BK129.out (by decide)) BK130.out (by decide)) (fun _ hk => hk.1.2) (.slice Ao9 t131.length co9)) (fun _ hk => hk.1.2) (.slice Ao11 t134.length co11)) (fun _ hk => hk.2) (.int .i64 a0_0)) (fun _ hk => hk.2) (.int .i64 a0_1)) (fun _ hk => hk.2) (.slice Ao9 t131.length co9)) (fun _ hk => hk.2) (.slice Ao11 t134.length co11)) (fun _ hk => hk.1.1.2), bl2 HB.out GE129.out GE130.out⟩

/-! ### impl_within: function 82 -/
def impl_within.f (a0 : Int) (a1 : Int) (a2 : Int) : Option (Bool) := if a1 ≤ a0 then (some (decide (a0 ≤ a2))) else (some false)
set_option maxHeartbeats 8000000 in
set_option maxRecDepth 100000 in
theorem impl_within.calls (a0 : Int) (a1 : Int) (a2 : Int) (r : Bool) (w : World) (h : impl_within.f a0 a1 a2 = some r) :
  Calls Try.prog 82 #[.int .i64 a0, .int .i64 a1, .int .i64 a2] w fun e w' => e = .returned (.bool r) ∧ Drawn0 w w' := by
 have H : (if a1 ≤ a0 then (some (decide (a0 ≤ a2))) else (some false)) = some r := h
 clear h
 by_cases c4 : a1 ≤ a0
 ·rw [if_pos c4] at H
  have c4b0 : decide (a1 ≤ a0) = true := decide_eq_true c4
  clear c4
  obtain rfl := Option.some.inj H
  go_enter Try.func82, Try.ntmps82
  go_wp2
  go_ret
  exact ⟨by first | rfl | (simp; done) | (simp [*]; done), by repeat (first | exact Drawn0.refl _ | apply Drawn0.step)⟩
 ·rw [if_neg c4] at H
  have c4b0 : decide (a1 ≤ a0) = false := decide_eq_false c4
  clear c4
  obtain rfl := Option.some.inj H
  go_enter Try.func82, Try.ntmps82
  go_wp2
  go_ret
  exact ⟨by first | rfl | (simp; done) | (simp [*]; done), by repeat (first | exact Drawn0.refl _ | apply Drawn0.step)⟩

/-! ### impl_isRoom: function 58 -/
def impl_isRoom.f (a0 : Int) : Option (Bool) := (impl_within.f a0 100 2000).bind fun t137 => (some t137)
set_option maxHeartbeats 8000000 in
set_option maxRecDepth 100000 in
theorem impl_isRoom.calls (a0 : Int) (r : Bool) (w : World) (h : impl_isRoom.f a0 = some r) :
  Calls Try.prog 58 #[.int .i64 a0] w fun e w' => e = .returned (.bool r) ∧ Drawn0 w w' := by
 have H : ((impl_within.f a0 100 2000).bind fun t137 => (some t137)) = some r := h
 clear h
 replace H := Option.bind_eq_some_iff.mp H
 obtain ⟨t137, A20, H⟩ := H
 try dsimp only at H
 have A2 := Aside0.mk A20
 clear A20
 obtain rfl := Option.some.inj H
 go_enter Try.func58, Try.ntmps58
 go_wp2_with (first | ((with_reducible refine gate_callee (f := 82) rfl ?_); refine goesL_ (some 4) rfl rfl Try.func82 (by kernel_rfl) rfl #[.int .i64 a0, .int .i64 100, .int .i64 2000] rfl (by (try simp only [List.map_toArray, List.map_cons, List.map_nil]); first | done | rfl | (simp only [List.length_drop, List.length_take]; rfl)) ?_; (with_reducible refine (impl_within.calls a0 100 2000 t137 _ A2.out).mono ?_); rintro e w' ⟨rfl, ⟨nd, rfl⟩⟩; refine ⟨_, rfl, ?_⟩))
 go_ret
 exact ⟨by first | rfl | (simp; done) | (simp [*]; done), by repeat (first | exact Drawn0.refl _ | apply Drawn0.step)⟩

/-! ### impl_NewSegmented: function 49 -/
def impl_NewSegmented.f (a0 : Int) (a1 : Int) : Option (Int × Int × (List (S45)) × (List (S45)) × Bool) := (impl_isRoom.f a0).bind fun t139 => (if t139 = true then ((impl_isRoom.f a1).bind fun t140 => (if t140 = true then (some (a0, a1, ([] : List (S45)), ([] : List (S45)), true)) else (some (0, 0, ([] : List (S45)), ([] : List (S45)), false)))) else (some (0, 0, ([] : List (S45)), ([] : List (S45)), false)))
set_option maxHeartbeats 8000000 in
set_option maxRecDepth 100000 in
theorem impl_NewSegmented.calls (a0 : Int) (a1 : Int) (r1 : Int) (r2 : Int) (r3 : List (S45)) (r4 : List (S45)) (r5 : Bool) (w : World) (h : impl_NewSegmented.f a0 a1 = some (r1, r2, r3, r4, r5)) :
  Calls Try.prog 49 #[.int .i64 a0, .int .i64 a1] w fun e w' => ∃ v2_ v3_ : Value, e = .returned (.tuple #[.agg #[.int .i64 r1, .int .i64 r2, v2_, v3_], .bool r5]) ∧ Kd.R k45 45 w' w.heap.size (fun k_ => some k_ ≠ (v3_ : Value).ownBlock) v2_ r3 ∧ Kd.R k45 45 w' w.heap.size (fun k_ => some k_ ≠ (v2_ : Value).ownBlock) v3_ r4 ∧ Below w.heap.size w w' := by
 have hu28 := Try.underlying28
 have HB := Aside0.mk (Below.refl w.heap.size w)
 have H : ((impl_isRoom.f a0).bind fun t139 => (if t139 = true then ((impl_isRoom.f a1).bind fun t140 => (if t140 = true then (some (a0, a1, ([] : List (S45)), ([] : List (S45)), true)) else (some (0, 0, ([] : List (S45)), ([] : List (S45)), false)))) else (some (0, 0, ([] : List (S45)), ([] : List (S45)), false)))) = some (r1, r2, r3, r4, r5) := h
 clear h
 replace H := Option.bind_eq_some_iff.mp H
 obtain ⟨t139, A30, H⟩ := H
 try dsimp only at H
 have A3 := Aside0.mk A30
 clear A30
 by_cases c4 : t139 = true
 ·subst c4
  have H1 : ((impl_isRoom.f a1).bind fun t140 => (if t140 = true then (some (a0, a1, ([] : List (S45)), ([] : List (S45)), true)) else (some (0, 0, ([] : List (S45)), ([] : List (S45)), false)))) = some (r1, r2, r3, r4, r5) := by rw [if_pos rfl] at H; exact H
  clear H
  have H := H1
  clear H1
  replace H := Option.bind_eq_some_iff.mp H
  obtain ⟨t140, A50, H⟩ := H
  try dsimp only at H
  have A5 := Aside0.mk A50
  clear A50
  by_cases c6 : t140 = true
  ·subst c6
   have H1 : (some (a0, a1, ([] : List (S45)), ([] : List (S45)), true)) = some (r1, r2, r3, r4, r5) := by rw [if_pos rfl] at H; exact H
   clear H
   have H := H1
   clear H1
   simp only [Option.some.injEq, Prod.mk.injEq] at H
   obtain ⟨rfl, rfl, rfl, rfl, rfl⟩ := H
   go_enter Try.func49, Try.ntmps49
   go_wp2_with (first | ((with_reducible refine gate_dst (N := 4) rfl ?_); refine box_event ?hg (N := 4) ?hd (cs := #[.int .i64 0, .int .i64 0, .slice none 0 0, .slice none 0 0]) (t := 28) ?hr ?_; (case hd => rfl); (case hg => rfl); (case hr => first | (go_simp; done) | (go_simp; rfl)); intro gb138 hg w7 hbox hb; have n0_ := Aside0.mk (below_step (bl HB.out) hb); have n1_ := Aside0.mk (hbox); have n2_ := Aside0.mk ((by rw [hg]; exact (below_size (bl HB.out)) : w.heap.size ≤ gb138)); have n3_ := Aside0.mk ((by rw [hg]; exact (below_size (bl HB.out)) : w.heap.size ≤ gb138)); clear HB; have HB := n0_; have BK138 := n1_; have GW138 := n2_; have GE138 := n3_; clear n0_ n1_ n2_ n3_; clear hb hbox hg) | ((with_reducible refine gate_callee (f := 58) rfl ?_); refine goesL_ (some 7) rfl rfl Try.func58 (by kernel_rfl) rfl #[.int .i64 a0] rfl (by (try simp only [List.map_toArray, List.map_cons, List.map_nil]); first | done | rfl | (simp only [List.length_drop, List.length_take]; rfl)) ?_; (with_reducible refine (impl_isRoom.calls a0 true _ A3.out).mono ?_); rintro e w' ⟨rfl, ⟨nd, rfl⟩⟩; refine ⟨_, rfl, ?_⟩; (try (rw [drewN_self w7]; generalize hq_ : World.drewN w7 _ = w7; have n0_ : Aside0 (w7.heap[gb138]? = some (.cells #[.int .i64 0, .int .i64 0, .slice none 0 0, .slice none 0 0] 28 (0, 0))) := ⟨by rw [← hq_]; exact (bk BK138.out)⟩; have n1_ : Aside0 (Below w.heap.size w w7) := ⟨by rw [← hq_]; exact (bl1 HB.out GE138.out)⟩; clear BK138 HB hq_; have BK138 := n0_; have HB := n1_; clear n0_ n1_))) | (go_at_call 58; (with_reducible refine (impl_isRoom.calls a1 true _ A5.out).mono ?_); rintro e w' ⟨rfl, ⟨nd, rfl⟩⟩; (try (rw [drewN_self w7]; generalize hq_ : World.drewN w7 _ = w7; have n0_ : Aside0 (w7.heap[gb138]? = some (.cells #[.int .i64 0, .int .i64 0, .slice none 0 0, .slice none 0 0] 28 (0, 0))) := ⟨by rw [← hq_]; exact (bk BK138.out)⟩; have n1_ : Aside0 (Below w.heap.size w w7) := ⟨by rw [← hq_]; exact (bl1 HB.out GE138.out)⟩; clear BK138 HB hq_; have BK138 := n0_; have HB := n1_; clear n0_ n1_)); have hcz8_0 := bc0 BK138.out; have hcz8_1 := bc1 BK138.out; have hcz8_2 := bc2 BK138.out; have hcz8_3 := bc3 BK138.out; have hfz8_0 := blk_frozen BK138.out 0; have hfz8_1 := blk_frozen BK138.out 1; have hfz8_2 := blk_frozen BK138.out 2; have hfz8_3 := blk_frozen BK138.out 3))
   refine bodyPost_ret (results_ct rfl _ _ gb138 28 #[.int .i64 a0, .int .i64 a1, .slice none 0 0, .slice none 0 0] (0, 0) _ rfl (by (with_reducible repeat (first | refine blk_drewN ?_ _ | refine blk_drew ?_ | refine blk_alloc ?_ _)); refine blk_put (cs := #[.int .i64 a0, .int .i64 a1, .slice none 0 0, .slice none 0 0]) ?_ 3 _ rfl; (with_reducible repeat (first | refine blk_drewN ?_ _ | refine blk_drew ?_ | refine blk_alloc ?_ _)); refine blk_put (cs := #[.int .i64 a0, .int .i64 a1, .slice none 0 0, .slice none 0 0]) ?_ 2 _ rfl; (with_reducible repeat (first | refine blk_drewN ?_ _ | refine blk_drew ?_ | refine blk_alloc ?_ _)); refine blk_put (cs := #[.int .i64 a0, .int .i64 0, .slice none 0 0, .slice none 0 0]) ?_ 1 _ rfl; (with_reducible repeat (first | refine blk_drewN ?_ _ | refine blk_drew ?_ | refine blk_alloc ?_ _)); refine blk_put (cs := #[.int .i64 0, .int .i64 0, .slice none 0 0, .slice none 0 0]) ?_ 0 _ rfl; exact bk BK138.out) Try.underlying28 rfl (by kernel_rfl)) rfl ?_
   exact ⟨_, _, by first | rfl | (simp [errW_none, errW_some] <;> rfl) | (simp [*, errW_none, errW_some] <;> rfl), by first | exact Kd.R_nil _ _ _ _ _ | exact Kd.N_nil _ _ _ _ _ | exact Kd.V_nil _ _ _ _ _ | exact Kd.Q_nil _ _ _ _ _ | exact Kd.S_nil _ _ _ _ _, by first | exact Kd.R_nil _ _ _ _ _ | exact Kd.N_nil _ _ _ _ _ | exact Kd.V_nil _ _ _ _ _ | exact Kd.Q_nil _ _ _ _ _ | exact Kd.S_nil _ _ _ _ _, bl1 HB.out GE138.out⟩
  ·replace c6 := Bool.eq_false_iff.mpr c6
   subst c6
   have H1 : (some (0, 0, ([] : List (S45)), ([] : List (S45)), false)) = some (r1, r2, r3, r4, r5) := by rw [if_neg (show ¬ (false = true) by decide)] at H; exact H
   clear H
   have H := H1
   clear H1
   simp only [Option.some.injEq, Prod.mk.injEq] at H
   obtain ⟨rfl, rfl, rfl, rfl, rfl⟩ := H
   go_enter Try.func49, Try.ntmps49
   go_wp2_with (first | ((with_reducible refine gate_dst (N := 4) rfl ?_); refine box_event ?hg (N := 4) ?hd (cs := #[.int .i64 0, .int .i64 0, .slice none 0 0, .slice none 0 0]) (t := 28) ?hr ?_; (case hd => rfl); (case hg => rfl); (case hr => first | (go_simp; done) | (go_simp; rfl)); intro gb138 hg w9 hbox hb; have n0_ := Aside0.mk (below_step (bl HB.out) hb); have n1_ := Aside0.mk (hbox); have n2_ := Aside0.mk ((by rw [hg]; exact (below_size (bl HB.out)) : w.heap.size ≤ gb138)); have n3_ := Aside0.mk ((by rw [hg]; exact (below_size (bl HB.out)) : w.heap.size ≤ gb138)); clear HB; have HB := n0_; have BK138 := n1_; have GW138 := n2_; have GE138 := n3_; clear n0_ n1_ n2_ n3_; clear hb hbox hg) | ((with_reducible refine gate_callee (f := 58) rfl ?_); refine goesL_ (some 7) rfl rfl Try.func58 (by kernel_rfl) rfl #[.int .i64 a0] rfl (by (try simp only [List.map_toArray, List.map_cons, List.map_nil]); first | done | rfl | (simp only [List.length_drop, List.length_take]; rfl)) ?_; (with_reducible refine (impl_isRoom.calls a0 true _ A3.out).mono ?_); rintro e w' ⟨rfl, ⟨nd, rfl⟩⟩; refine ⟨_, rfl, ?_⟩; (try (rw [drewN_self w9]; generalize hq_ : World.drewN w9 _ = w9; have n0_ : Aside0 (w9.heap[gb138]? = some (.cells #[.int .i64 0, .int .i64 0, .slice none 0 0, .slice none 0 0] 28 (0, 0))) := ⟨by rw [← hq_]; exact (bk BK138.out)⟩; have n1_ : Aside0 (Below w.heap.size w w9) := ⟨by rw [← hq_]; exact (bl1 HB.out GE138.out)⟩; clear BK138 HB hq_; have BK138 := n0_; have HB := n1_; clear n0_ n1_))) | (go_at_call 58; (with_reducible refine (impl_isRoom.calls a1 false _ A5.out).mono ?_); rintro e w' ⟨rfl, ⟨nd, rfl⟩⟩; (try (rw [drewN_self w9]; generalize hq_ : World.drewN w9 _ = w9; have n0_ : Aside0 (w9.heap[gb138]? = some (.cells #[.int .i64 0, .int .i64 0, .slice none 0 0, .slice none 0 0] 28 (0, 0))) := ⟨by rw [← hq_]; exact (bk BK138.out)⟩; have n1_ : Aside0 (Below w.heap.size w w9) := ⟨by rw [← hq_]; exact (bl1 HB.out GE138.out)⟩; clear BK138 HB hq_; have BK138 := n0_; have HB := n1_; clear n0_ n1_)); have hcz10_0 := bc0 BK138.out; have hcz10_1 := bc1 BK138.out; have hcz10_2 := bc2 BK138.out; have hcz10_3 := bc3 BK138.out; have hfz10_0 := blk_frozen BK138.out 0; have hfz10_1 := blk_frozen BK138.out 1; have hfz10_2 := blk_frozen BK138.out 2; have hfz10_3 := blk_frozen BK138.out 3))
   refine bodyPost_ret (results_ct rfl _ _ gb138 28 #[.int .i64 0, .int .i64 0, .slice none 0 0, .slice none 0 0] (0, 0) _ rfl (by (with_reducible repeat (first | refine blk_drewN ?_ _ | refine blk_drew ?_ | refine blk_alloc ?_ _)); refine blk_put (cs := #[.int .i64 0, .int .i64 0, .slice none 0 0, .slice none 0 0]) ?_ 3 _ rfl; (with_reducible repeat (first | refine blk_drewN ?_ _ | refine blk_drew ?_ | refine blk_alloc ?_ _)); refine blk_put (cs := #[.int .i64 0, .int .i64 0, .slice none 0 0, .slice none 0 0]) ?_ 2 _ rfl; (with_reducible repeat (first | refine blk_drewN ?_ _ | refine blk_drew ?_ | refine blk_alloc ?_ _)); refine blk_put (cs := #[.int .i64 0, .int .i64 0, .slice none 0 0, .slice none 0 0]) ?_ 1 _ rfl; (with_reducible repeat (first | refine blk_drewN ?_ _ | refine blk_drew ?_ | refine blk_alloc ?_ _)); refine blk_put (cs := #[.int .i64 0, .int .i64 0, .slice none 0 0, .slice none 0 0]) ?_ 0 _ rfl; exact bk BK138.out) Try.underlying28 rfl (by kernel_rfl)) rfl ?_
   exact ⟨_, _, by first | rfl | (simp [errW_none, errW_some] <;> rfl) | (simp [*, errW_none, errW_some] <;> rfl), by first | exact Kd.R_nil _ _ _ _ _ | exact Kd.N_nil _ _ _ _ _ | exact Kd.V_nil _ _ _ _ _ | exact Kd.Q_nil _ _ _ _ _ | exact Kd.S_nil _ _ _ _ _, by first | exact Kd.R_nil _ _ _ _ _ | exact Kd.N_nil _ _ _ _ _ | exact Kd.V_nil _ _ _ _ _ | exact Kd.Q_nil _ _ _ _ _ | exact Kd.S_nil _ _ _ _ _, bl1 HB.out GE138.out⟩
 ·replace c4 := Bool.eq_false_iff.mpr c4
  subst c4
  have H1 : (some (0, 0, ([] : List (S45)), ([] : List (S45)), false)) = some (r1, r2, r3, r4, r5) := by rw [if_neg (show ¬ (false = true) by decide)] at H; exact H
  clear H
  have H := H1
  clear H1
  simp only [Option.some.injEq, Prod.mk.injEq] at H
  obtain ⟨rfl, rfl, rfl, rfl, rfl⟩ := H
  go_enter Try.func49, Try.ntmps49
  go_wp2_with (first | ((with_reducible refine gate_dst (N := 4) rfl ?_); refine box_event ?hg (N := 4) ?hd (cs := #[.int .i64 0, .int .i64 0, .slice none 0 0, .slice none 0 0]) (t := 28) ?hr ?_; (case hd => rfl); (case hg => rfl); (case hr => first | (go_simp; done) | (go_simp; rfl)); intro gb138 hg w11 hbox hb; have n0_ := Aside0.mk (below_step (bl HB.out) hb); have n1_ := Aside0.mk (hbox); have n2_ := Aside0.mk ((by rw [hg]; exact (below_size (bl HB.out)) : w.heap.size ≤ gb138)); have n3_ := Aside0.mk ((by rw [hg]; exact (below_size (bl HB.out)) : w.heap.size ≤ gb138)); clear HB; have HB := n0_; have BK138 := n1_; have GW138 := n2_; have GE138 := n3_; clear n0_ n1_ n2_ n3_; clear hb hbox hg) | ((with_reducible refine gate_callee (f := 58) rfl ?_); refine goesL_ (some 7) rfl rfl Try.func58 (by kernel_rfl) rfl #[.int .i64 a0] rfl (by (try simp only [List.map_toArray, List.map_cons, List.map_nil]); first | done | rfl | (simp only [List.length_drop, List.length_take]; rfl)) ?_; (with_reducible refine (impl_isRoom.calls a0 false _ A3.out).mono ?_); rintro e w' ⟨rfl, ⟨nd, rfl⟩⟩; refine ⟨_, rfl, ?_⟩; (try (rw [drewN_self w11]; generalize hq_ : World.drewN w11 _ = w11; have n0_ : Aside0 (w11.heap[gb138]? = some (.cells #[.int .i64 0, .int .i64 0, .slice none 0 0, .slice none 0 0] 28 (0, 0))) := ⟨by rw [← hq_]; exact (bk BK138.out)⟩; have n1_ : Aside0 (Below w.heap.size w w11) := ⟨by rw [← hq_]; exact (bl1 HB.out GE138.out)⟩; clear BK138 HB hq_; have BK138 := n0_; have HB := n1_; clear n0_ n1_)); have hcz12_0 := bc0 BK138.out; have hcz12_1 := bc1 BK138.out; have hcz12_2 := bc2 BK138.out; have hcz12_3 := bc3 BK138.out; have hfz12_0 := blk_frozen BK138.out 0; have hfz12_1 := blk_frozen BK138.out 1; have hfz12_2 := blk_frozen BK138.out 2; have hfz12_3 := blk_frozen BK138.out 3))
  refine bodyPost_ret (results_ct rfl _ _ gb138 28 #[.int .i64 0, .int .i64 0, .slice none 0 0, .slice none 0 0] (0, 0) _ rfl (by (with_reducible repeat (first | refine blk_drewN ?_ _ | refine blk_drew ?_ | refine blk_alloc ?_ _)); refine blk_put (cs := #[.int .i64 0, .int .i64 0, .slice none 0 0, .slice none 0 0]) ?_ 3 _ rfl; (with_reducible repeat (first | refine blk_drewN ?_ _ | refine blk_drew ?_ | refine blk_alloc ?_ _)); refine blk_put (cs := #[.int .i64 0, .int .i64 0, .slice none 0 0, .slice none 0 0]) ?_ 2 _ rfl; (with_reducible repeat (first | refine blk_drewN ?_ _ | refine blk_drew ?_ | refine blk_alloc ?_ _)); refine blk_put (cs := #[.int .i64 0, .int .i64 0, .slice none 0 0, .slice none 0 0]) ?_ 1 _ rfl; (with_reducible repeat (first | refine blk_drewN ?_ _ | refine blk_drew ?_ | refine blk_alloc ?_ _)); refine blk_put (cs := #[.int .i64 0, .int .i64 0, .slice none 0 0, .slice none 0 0]) ?_ 0 _ rfl; exact bk BK138.out) Try.underlying28 rfl (by kernel_rfl)) rfl ?_
  exact ⟨_, _, by first | rfl | (simp [errW_none, errW_some] <;> rfl) | (simp [*, errW_none, errW_some] <;> rfl), by first | exact Kd.R_nil _ _ _ _ _ | exact Kd.N_nil _ _ _ _ _ | exact Kd.V_nil _ _ _ _ _ | exact Kd.Q_nil _ _ _ _ _ | exact Kd.S_nil _ _ _ _ _, by first | exact Kd.R_nil _ _ _ _ _ | exact Kd.N_nil _ _ _ _ _ | exact Kd.V_nil _ _ _ _ _ | exact Kd.Q_nil _ _ _ _ _ | exact Kd.S_nil _ _ _ _ _, bl1 HB.out GE138.out⟩

-- NOT PRINTED: function 86 (impl_Entry_86)

-- NOT PRINTED: function 74 (impl_Entry_74)

-- NOT PRINTED: function 75 (impl_Entry_1)

-- NOT PRINTED: function 50 (impl_Entry_50)

/-! ### impl_isKey: function 76 -/
def impl_isKey.f (a0 : ByteArray) : Option (Bool) := (impl_within.f (a0.size : Int) 1 20).bind fun t141 => (some t141)
set_option maxHeartbeats 8000000 in
set_option maxRecDepth 100000 in
theorem impl_isKey.calls (a0 : ByteArray) (r : Bool) (w : World) (h : impl_isKey.f a0 = some r) :
  Calls Try.prog 76 #[.string a0] w fun e w' => e = .returned (.bool r) ∧ Drawn0 w w' := by
 have H : ((impl_within.f (a0.size : Int) 1 20).bind fun t141 => (some t141)) = some r := h
 clear h
 replace H := Option.bind_eq_some_iff.mp H
 obtain ⟨t141, A20, H⟩ := H
 try dsimp only at H
 have A2 := Aside0.mk A20
 clear A20
 obtain rfl := Option.some.inj H
 go_enter Try.func76, Try.ntmps76
 go_wp2_with (first | ((with_reducible refine gate_callee (f := 82) rfl ?_); refine goesL_ (some 5) rfl rfl Try.func82 (by kernel_rfl) rfl #[.int .i64 (a0.size : Int), .int .i64 1, .int .i64 20] rfl (by (try simp only [List.map_toArray, List.map_cons, List.map_nil]); first | done | rfl | (simp only [List.length_drop, List.length_take]; rfl)) ?_; (with_reducible refine (impl_within.calls (a0.size : Int) 1 20 t141 _ A2.out).mono ?_); rintro e w' ⟨rfl, ⟨nd, rfl⟩⟩; refine ⟨_, rfl, ?_⟩))
 go_ret
 exact ⟨by first | rfl | (simp; done) | (simp [*]; done), by repeat (first | exact Drawn0.refl _ | apply Drawn0.step)⟩

/-! ### impl_isEntry: function 51 -/
def impl_isEntry.f (a0_0 : ByteArray) (a0_1 : ByteArray) : Option (Bool) := (impl_isKey.f a0_0).bind fun t143 => (if t143 = true then (some (decide ((a0_1.size : Int) ≤ 60))) else (some false))
set_option maxHeartbeats 8000000 in
set_option maxRecDepth 100000 in
theorem impl_isEntry.calls (a0_0 : ByteArray) (a0_1 : ByteArray) (r : Bool) (w : World) (h : impl_isEntry.f a0_0 a0_1 = some r) :
  Calls Try.prog 51 #[.agg #[.string a0_0, .string a0_1]] w fun e w' => e = .returned (.bool r) ∧ Below w.heap.size w w' := by
 have hu45 := Try.underlying45
 have HB := Aside0.mk (Below.refl w.heap.size w)
 have H : ((impl_isKey.f a0_0).bind fun t143 => (if t143 = true then (some (decide ((a0_1.size : Int) ≤ 60))) else (some false))) = some r := h
 clear h
 replace H := Option.bind_eq_some_iff.mp H
 obtain ⟨t143, A20, H⟩ := H
 try dsimp only at H
 have A2 := Aside0.mk A20
 clear A20
 by_cases c3 : t143 = true
 ·subst c3
  have H1 : (some (decide ((a0_1.size : Int) ≤ 60))) = some r := by rw [if_pos rfl] at H; exact H
  clear H
  have H := H1
  clear H1
  obtain rfl := Option.some.inj H
  go_enter Try.func51, Try.ntmps51
  go_wp2_with (first | ((with_reducible refine gate_dst (N := 1) rfl ?_); (try (refine gate_guard (by rfl) ?_; dsimp only)); refine box_event ?hg (N := 1) ?hd (cs := #[.string a0_0, .string a0_1]) (t := 45) ?hr ?_; (case hd => rfl); (case hg => rfl); (case hr => first | (go_simp; done) | (go_simp; rfl)); intro gb142 hg w4 hbox hb; have n0_ := Aside0.mk (below_step (bl HB.out) hb); have n1_ := Aside0.mk (hbox); have n2_ := Aside0.mk ((by rw [hg]; exact (below_size (bl HB.out)) : w.heap.size ≤ gb142)); have n3_ := Aside0.mk ((by rw [hg]; exact (below_size (bl HB.out)) : w.heap.size ≤ gb142)); clear HB; have HB := n0_; have BK142 := n1_; have GW142 := n2_; have GE142 := n3_; clear n0_ n1_ n2_ n3_; clear hb hbox hg; have hcz5_0 := bc0 BK142.out; have hcz5_1 := bc1 BK142.out; have hfz5_0 := blk_frozen BK142.out 0; have hfz5_1 := blk_frozen BK142.out 1) | ((with_reducible refine gate_callee (f := 76) rfl ?_); refine goesL_ (some 5) rfl rfl Try.func76 (by kernel_rfl) rfl #[.string a0_0] rfl (by (try simp only [List.map_toArray, List.map_cons, List.map_nil]); first | done | rfl | (simp only [List.length_drop, List.length_take]; rfl)) ?_; (with_reducible refine (impl_isKey.calls a0_0 true _ A2.out).mono ?_); rintro e w' ⟨rfl, ⟨nd, rfl⟩⟩; refine ⟨_, rfl, ?_⟩))
  go_ret
  exact ⟨by first | rfl | (simp [errW_none, errW_some] <;> rfl) | (simp [*, errW_none, errW_some] <;> rfl), bl1 HB.out GE142.out⟩
 ·replace c3 := Bool.eq_false_iff.mpr c3
  subst c3
  have H1 : (some false) = some r := by rw [if_neg (show ¬ (false = true) by decide)] at H; exact H
  clear H
  have H := H1
  clear H1
  obtain rfl := Option.some.inj H
  go_enter Try.func51, Try.ntmps51
  go_wp2_with (first | ((with_reducible refine gate_dst (N := 1) rfl ?_); (try (refine gate_guard (by rfl) ?_; dsimp only)); refine box_event ?hg (N := 1) ?hd (cs := #[.string a0_0, .string a0_1]) (t := 45) ?hr ?_; (case hd => rfl); (case hg => rfl); (case hr => first | (go_simp; done) | (go_simp; rfl)); intro gb142 hg w6 hbox hb; have n0_ := Aside0.mk (below_step (bl HB.out) hb); have n1_ := Aside0.mk (hbox); have n2_ := Aside0.mk ((by rw [hg]; exact (below_size (bl HB.out)) : w.heap.size ≤ gb142)); have n3_ := Aside0.mk ((by rw [hg]; exact (below_size (bl HB.out)) : w.heap.size ≤ gb142)); clear HB; have HB := n0_; have BK142 := n1_; have GW142 := n2_; have GE142 := n3_; clear n0_ n1_ n2_ n3_; clear hb hbox hg; have hcz7_0 := bc0 BK142.out; have hcz7_1 := bc1 BK142.out; have hfz7_0 := blk_frozen BK142.out 0; have hfz7_1 := blk_frozen BK142.out 1) | ((with_reducible refine gate_callee (f := 76) rfl ?_); refine goesL_ (some 5) rfl rfl Try.func76 (by kernel_rfl) rfl #[.string a0_0] rfl (by (try simp only [List.map_toArray, List.map_cons, List.map_nil]); first | done | rfl | (simp only [List.length_drop, List.length_take]; rfl)) ?_; (with_reducible refine (impl_isKey.calls a0_0 false _ A2.out).mono ?_); rintro e w' ⟨rfl, ⟨nd, rfl⟩⟩; refine ⟨_, rfl, ?_⟩))
  go_ret
  exact ⟨by first | rfl | (simp [errW_none, errW_some] <;> rfl) | (simp [*, errW_none, errW_some] <;> rfl), bl1 HB.out GE142.out⟩

-- NOT PRINTED: function 87 (impl_find_1)

-- NOT PRINTED: function 70 (impl_find)

-- NOT PRINTED: function 71 (impl_Entry_71)

/-! ### slices.Delete over entries, one at a time: function 71 -/
theorem run_clear_entry (w : World) (ty : TypeId) (g o c : Nat) (hc : ∀ j, j < 2 → (w.cell? ⟨g, o + j, none⟩).isSome = true) (hf : ∀ j, j < 2 → w.frozen? ⟨g, o + j, none⟩ = false) :
  (Builtin.clear_ #[26] ty #[.slice (some ⟨g, o, none⟩) 1 c]).run Try.prog w = .ok (.tuple #[]) (w.setCells g o [.string ⟨#[]⟩, .string ⟨#[]⟩]) := by
 have hst := run_storeCells_cells (P := Try.prog) g o [Value.string ⟨#[]⟩, Value.string ⟨#[]⟩] 0 w (by simpa using hc) (by simpa using hf) (by intro v hv; simp at hv; subst hv; rfl)
 simp only [Nat.add_zero] at hst
 have hv : ∀ w, (zeroValue 45).run Try.prog w = .ok (.agg #[.string ⟨#[]⟩, .string ⟨#[]⟩]) w := fun w => by kernel_rfl
 have hz : (Builtin.zeroCells (Value.agg #[.string ⟨#[]⟩, .string ⟨#[]⟩]).cells 1).toList = [Value.string ⟨#[]⟩, Value.string ⟨#[]⟩] := by kernel_rfl
 simp [Builtin.clear_, run_underlying Try.underlying26, hv, hz, hst]
/-- What a row looks like where entry i is taken out of it and the last place is made zero. -/
theorem erase_row {w w' : World} {base g cap i : Nat} {ok : Nat → Prop} {xs : List S45} {cur cur' : Array Value} (h : k45.R 45 w base ok (.slice (some ⟨g, 0, none⟩) xs.length cap) xs)
  (hg : w.heap[g]? = some (.cells cur 45 (0, 0))) (hg' : w'.heap[g]? = some (.cells cur' 45 (0, 0))) (hs : cur'.size = cur.size) (hi : i < xs.length)
  (hc : cur'.toList.take ((xs.length - 1) * 2) = (cur.toList.take (xs.length * 2)).take (i * 2) ++ (cur.toList.take (xs.length * 2)).drop ((i + 1) * 2)) :
  k45.R 45 w' base ok (.slice (some ⟨g, 0, none⟩) (xs.length - 1) cap) (xs.eraseIdx i) := by
 obtain ⟨h0, inner, ⟨h1, h2⟩, h3⟩ := h
 have he : xs.eraseIdx i = xs.take i ++ xs.drop (i + 1) := List.eraseIdx_eq_take_drop_succ xs i
 have hl : (xs.eraseIdx i).length = xs.length - 1 := by rw [List.length_eraseIdx]; simp [hi]
 rcases h2 with ⟨h2, _⟩ | ⟨g1, cap1, cur1, e1, hb, hh, hn, hm, hsz, ht⟩
 ·cases h2
 ·obtain ⟨rfl, rfl⟩ : g1 = g ∧ cap1 = cap := by
   simp only [Value.slice.injEq, Option.some.injEq, Addr.mk.injEq] at e1
   exact ⟨e1.1.1.symm, e1.2.2.symm⟩
  rw [hg] at hh
  obtain rfl : cur = cur1 := by injection hh with hh; injection hh
  refine ⟨h0, (cur.toList.take (xs.length * 2)).take (i * 2) ++ (cur.toList.take (xs.length * 2)).drop ((i + 1) * 2), ?_, ?_⟩
  ·rw [hl]
   rw [show k45.sz = 2 from rfl] at hsz ⊢
   refine ⟨?_, .inr ⟨g1, cap1, cur', rfl, hb, hg', by omega, hm, by rw [hs, hsz], hc⟩⟩
   have : xs.length * 2 ≤ cap1 * 2 := Nat.mul_le_mul_right _ hn
   simp only [List.length_append, List.length_take, List.length_drop, Array.length_toList, hsz]
   omega
  ·have hk : k45.sz = 2 := rfl
   rw [hk] at ht h3
   rw [ht, he]
   have hrr : ∀ (p : S45) c, k45.M w base (fun k => ok k ∧ some k ≠ (Value.slice (some ⟨g1, 0, none⟩) xs.length cap1).ownBlock) p c → k45.M w' base (fun k => ok k ∧ some k ≠ (Value.slice (some ⟨g1, 0, none⟩) (xs.length - 1) cap1).ownBlock) p c :=
    fun p c hp => by rw [k45_openM hp]; exact k45_mkM _ _ _ _
   exact Kd.reps_append ((Kd.reps_take h3 (by omega)).imp_ hrr) ((Kd.reps_drop h3).imp_ hrr)
set_option maxHeartbeats 4000000 in
set_option maxRecDepth 1000000 in
theorem slices_DeleteE.calls (base g cap i : Nat) (ok : Nat → Prop) (xs : List S45) (w : World) (h : k45.R 45 w base ok (.slice (some ⟨g, 0, none⟩) xs.length cap) xs) (hi : i < xs.length) :
  Calls Try.prog 71 #[.slice (some ⟨g, 0, none⟩) xs.length cap, .int .i64 i, .int .i64 ((i : Int) + 1)] w fun e w' => e = .returned (.slice (some ⟨g, 0, none⟩) (xs.length - 1) cap) ∧ k45.R 45 w' base ok (.slice (some ⟨g, 0, none⟩) (xs.length - 1) cap) (xs.eraseIdx i) ∧ w.grownBy w' (some g) := by
 obtain ⟨cur, hcur⟩ : ∃ cur, w.heap[g]? = some (.cells cur 45 (0, 0)) := Kd.R_typed h g rfl
 obtain ⟨hcap, hmax, hsz⟩ : xs.length ≤ cap ∧ cap ≤ 9223372036854775807 ∧ cur.size = cap * 2 := by
  obtain ⟨_, inner, ⟨_, h2⟩, _⟩ := h
  rcases h2 with ⟨h2, _⟩ | ⟨g1, cap1, cur1, e1, hb, hh, hn, hm, hsz, ht⟩
  ·cases h2
  ·simp only [Value.slice.injEq, Option.some.injEq, Addr.mk.injEq] at e1
   obtain ⟨⟨rfl, _⟩, _, rfl⟩ := e1
   rw [hcur] at hh
   obtain rfl : cur = cur1 := by injection hh with hh; injection hh
   exact ⟨hn, hm, hsz⟩
 obtain ⟨i0, hi0, hii⟩ := Option.map_eq_some_iff.1 info45
 simp only [Prod.mk.injEq] at hii
 obtain ⟨_, hz1, _⟩ := hii
 obtain ⟨n, hn⟩ : ∃ n, n = xs.length := ⟨_, rfl⟩
 obtain ⟨news, hnews⟩ : ∃ news, news = (cur.toList.take (n * 2)).drop ((i + 1) * 2) := ⟨_, rfl⟩
 have hlen : news.length = (n - (i + 1)) * 2 := by
  rw [hnews]; simp only [List.length_drop, List.length_take, Array.length_toList, hsz]; omega
 have hcell : ∀ j, j < cap * 2 → ∀ q, (w.drewN q).cell? ⟨g, j, none⟩ = some (cur[j]!) := by
  intro j hj q
  show w.cell? _ = _
  rw [blk_cell hcur j, getElem!_pos cur j (by omega), Array.getElem?_eq_getElem (by omega)]
 have hfz : ∀ j, w.frozen? ⟨g, j, none⟩ = false := fun j => blk_frozen hcur j
 obtain ⟨A, hA, hsrc⟩ : ∃ A : Addr, (if cap = i + 1 then some (⟨g, 0, none⟩ : Addr) else some ⟨g, (i + 1) * 2, none⟩) = some A ∧ Hid (∀ t u, news[t]? = some u → w.drew.cell? (A.add t) = some u) := by
  by_cases hc : cap = i + 1
  ·refine ⟨⟨g, 0, none⟩, by simp [hc], fun t u hu => ?_⟩
   have h0 : news.length = 0 := by rw [hlen]; omega
   rw [List.length_eq_zero_iff.1 h0] at hu
   simp at hu
  ·refine ⟨⟨g, (i + 1) * 2, none⟩, by simp [hc], fun t u hu => ?_⟩
   rw [add_at]
   show w.cell? _ = _
   rw [blk_cell hcur]
   rw [hnews, List.getElem?_drop, List.getElem?_take] at hu
   split at hu
   ·rw [← Array.getElem?_toList]; exact hu
   ·cases hu
 have s1 : Hid (news.length = (n - (i + 1)) * 2) := hlen
 have s2 : Hid (∀ u ∈ news, u.oneCell' = true) := by
  intro u hu
  obtain ⟨_, inner, ⟨_, h2⟩, h3⟩ := h
  rcases h2 with ⟨h2, _⟩ | ⟨g1, cap1, cur1, e1, hb, hh, hn1, hm, hsz, ht⟩
  ·cases h2
  ·simp only [Value.slice.injEq, Option.some.injEq, Addr.mk.injEq] at e1
   obtain ⟨⟨rfl, _⟩, _, rfl⟩ := e1
   rw [hcur] at hh
   obtain rfl : cur = cur1 := by injection hh with hh; injection hh
   refine Kd.reps_one h3 (by decide) (fun p c hp => ?_) u ?_
   ·rw [k45_openM hp]; intro v hv; simp at hv; rcases hv with rfl | rfl <;> rfl
   ·rw [← ht]
    rw [hnews, hn] at hu
    exact List.mem_of_mem_drop hu
 have s3 : Hid (∀ t, t < news.length → (w.drew.cell? ⟨g, 0 + i * 2 + t, none⟩).isSome = true ∧ w.drew.frozen? ⟨g, 0 + i * 2 + t, none⟩ = false) := by
  intro t ht
  rw [hlen] at ht
  refine ⟨?_, hfz _⟩
  rw [show w.drew = w.drewN 1 from rfl, hcell _ (by omega)]; rfl
 obtain ⟨W1, hW1⟩ : ∃ W1, W1 = w.drew.setCells g (0 + i * 2) news := ⟨_, rfl⟩
 obtain ⟨cur1, hc1, hs1, ht1⟩ := setCells_row news (0 + i * 2) w.drew cur hcur (by omega)
 rw [← hW1] at hc1
 have hcl : ∀ ty, (Builtin.clear_ #[26] ty #[.slice (some ⟨g, (i + (n - (i + 1))) * 2, none⟩) (n - (i + (n - (i + 1)))) (cap - (i + (n - (i + 1))))]).run Try.prog W1 = .ok (.tuple #[]) (W1.setCells g ((i + (n - (i + 1))) * 2) [.string ⟨#[]⟩, .string ⟨#[]⟩]) := by
  intro ty
  rw [show n - (i + (n - (i + 1))) = 1 by omega]
  refine run_clear_entry W1 ty g _ _ (fun j hj => ?_) (fun j hj => blk_frozen hc1 _)
  rw [blk_cell hc1, Array.getElem?_eq_getElem (by omega)]; rfl
 obtain ⟨cur2, hc2, hs2, ht2⟩ := setCells_row [.string ⟨#[]⟩, .string ⟨#[]⟩] ((i + (n - (i + 1))) * 2) W1 cur1 hc1 (by simp; omega)
 have hres := erase_row (i := i) h hcur hc2 (by rw [hs2, hs1]) hi (by
  rw [ht2, ht1, ← hn, hnews]
  have e1 : (n - 1) * 2 = (i + (n - (i + 1))) * 2 := by omega
  rw [e1, List.append_assoc, List.take_left' (by simp only [List.length_take, List.length_append, List.length_drop, Array.length_toList, hsz]; omega)]
  rw [List.take_append_of_le_length (by simp only [List.length_take, List.length_append, List.length_drop, Array.length_toList, hsz]; omega)]
  rw [List.take_of_length_le (by simp only [List.length_take, List.length_append, List.length_drop, Array.length_toList, hsz]; omega), List.take_take, Nat.min_eq_left (by omega), Nat.zero_add])
 have hgrow : w.grownBy (W1.setCells g ((i + (n - (i + 1))) * 2) [.string ⟨#[]⟩, .string ⟨#[]⟩]) (some g) := by
  obtain ⟨a1, a2, a3, a4⟩ := setCells_same g news (0 + i * 2) w.drew
  obtain ⟨b1, b2, b3, b4⟩ := setCells_same g [.string ⟨#[]⟩, .string ⟨#[]⟩] ((i + (n - (i + 1))) * 2) W1
  rw [← hW1] at a1 a2 a3 a4
  refine ⟨b1.trans a1, b2.trans a2, b3.trans a3, by rw [b4, a4]; exact Nat.le_refl _, fun k _ hk => ?_⟩
  have hk' : k ≠ g := fun e => hk (by rw [e])
  rw [setCells_far _ _ k hk', hW1, setCells_far _ _ k hk']; rfl
 have HRES := Aside0.mk hres
 have HGROW := Aside0.mk hgrow
 have hW : Hid (W1 = w.drew.setCells g (0 + i * 2) news) := hW1
 have HN := Aside0.mk hn
 have hic : i ≤ cap := by omega
 have hjc : i + 1 ≤ cap := by omega
 have hin : i + 1 ≤ n := by omega
 have hnc : n ≤ cap := by omega
 have u26 : ∀ w, Sem.run Try.prog (underlying 26) w = .ok (TypeDesc.slice 45) w := run_underlying Try.underlying26
 rw [← hn] at hi ⊢
 clear hW1 hcell hfz hlen hnews hres hgrow hc1 hs1 ht1 hc2 hs2 ht2 hcur hsz h hn hcap
 have hk1 : (0 ≤ (i : Int) + 1) = True := eq_true (by omega)
 have hk2 : ((i : Int) + 1 ≤ (n : Int)) = True := eq_true (by omega)
 go_enter Try.func71, Try.ntmps71
 go_wp2_with fail
 go_region_law (refine step_append_room rfl (.tmp 22) (.tmp 25) 26 rfl 45 i0 2 Try.underlying26 hi0 hz1 g 0 i cap (by simp [Act.eval, Act.put]) A (n - (i + 1)) (cap - (i + 1)) news (by simp [Act.eval, Act.put]) s1.out hsrc.out s2.out (by omega) s3.out ?_; rw [← hW.out])
 go_wp2
 go_ret
 have HR2 := HRES.out
 rw [← HN.out] at HR2
 exact ⟨by rw [show i + (n - (i + 1)) = n - 1 by omega]; rfl, HR2, HGROW.out⟩

/-! ### find over entries: functions 87, 86, 70 -/
/-- The place of the entry with a key, or -1. -/
def fndE (key : ByteArray) : List S45 → Int → Int
 | [], _ => -1
 | x :: xs, i => if (x.f0.toList == key.toList) = true then i else fndE key xs (i + 1)
set_option maxHeartbeats 800000 in
set_option maxRecDepth 100000 in
theorem fndE.one (b : Nat) (key : ByteArray) (x : S45) (w : World) (hb : b < w.heap.size) (hc : w.cell? ⟨b, 0, none⟩ = some (.string key)) :
  Calls Try.prog 87 #[.agg #[.string x.f0, .string x.f1], .pointer (some ⟨b, 0, none⟩)] w fun e w' => e = .returned (.bool (x.f0.toList == key.toList)) ∧ Below w.heap.size w w' := by
 go_enter Try.func87, Try.ntmps87
 go_wp2
 go_ret
 exact ⟨rfl, below_alloc (Below.refl _ _) _⟩
set_option maxHeartbeats 1600000 in
set_option maxRecDepth 100000 in
theorem fndE.idx (A : Option Addr) (c : Nat) (l : List S45) (key : ByteArray) (b : Nat) (w : World) (hr : Kd.C k45 w A l.length l) (hb : b < w.heap.size) (hcb : w.cell? ⟨b, 0, none⟩ = some (.string key)) :
  Calls Try.prog 86 #[.slice A l.length c, .func (.func 87) #[] #[.pointer (some ⟨b, 0, none⟩)]] w fun e w' => e = .returned (.int .i64 (fndE key l 0)) ∧ Below w.heap.size w w' := by
 have hm := Kd.C_max hr
 have eg87 : ∀ args w, (callFunc 87 args).run Try.prog w = .ok (.enter 87 args) w := enters_of Try.func87 (by kernel_rfl) rfl
 have HR := Aside0.mk hr
 have HC := Aside0.mk hcb
 clear hr hcb
 go_enter Try.func86, Try.ntmps86
 go_wp2
 go_loopg [5, 8] l.length (fun gg _ s8 wr => ∃ j : Nat, j ≤ l.length ∧ l.length - j ≤ gg ∧ s8 = .int .i64 j ∧ Aside0 (Below w.heap.size w wr) ∧ Aside0 (fndE key (l.drop j) j = fndE key l 0))
 case atStart => exact ⟨0, Nat.zero_le _, by omega, rfl, ⟨Below.refl _ _⟩, ⟨rfl⟩⟩
 case round =>
  obtain ⟨j, hj, hg, rfl, BW, HA⟩ := hrel
  by_cases hlt : j < l.length
  ·have hlt' : (j : Int) < (l.length : Int) := by omega
   have h0 : (0 : Int) ≤ (j : Int) := by omega
   have ha := HA.out
   rw [List.drop_eq_getElem_cons hlt] at ha
   simp only [fndE] at ha
   obtain ⟨ad, ea, hx0, hx1⟩ := at_T45 (Kd.C_below HR.out BW.out) (j : Int) h0 hlt'
   cases ea
   have e : rd_T45 l (j : Int) = l[j] := by
    show l.getD j _ = _
    rw [List.getD_eq_getElem?_getD, List.getElem?_eq_getElem hlt]; rfl
   rw [e] at hx0 hx1
   simp only [Int.toNat_natCast] at hx0 hx1
   have hbw : w.heap.size ≤ wr.heap.size := BW.out.size
   have hc2 := (BW.out.cell (p := ⟨b, 0, none⟩) hb).trans HC.out
   have hcall := fndE.one b key l[j] wr (by omega) hc2
   generalize l[j] = y at ha hx0 hx1 hcall
   have HA2 := Aside0.mk ha
   have HK := Aside0.mk hcall
   clear ha hcall hc2
   cases hbb : (y.f0.toList == key.toList) with
   | true =>
    rw [hbb] at HK HA2
    go_wp2_with (go_at_fn 87; refine HK.out.mono ?_; rintro e w' ⟨rfl, hb'⟩)
    go_ret
    exact ⟨congrArg (fun z => Ending.returned (.int .i64 z)) (by have := HA2.out; simpa using this), below_then BW.out hbw hb'⟩
   | false =>
    rw [hbb] at HK HA2
    go_wp2_with (go_at_fn 87; refine HK.out.mono ?_; rintro e w' ⟨rfl, hb'⟩)
    go_roundg (l.length - (j + 1))
    case measure => omega
    case rel => exact ⟨j + 1, by omega, by omega, by go_num, ⟨below_then BW.out hbw hb'⟩, ⟨by have := HA2.out; rw [if_neg (by simp)] at this; rw [← this]; congr 1⟩⟩
  ·have hlt' : ¬ (j : Int) < (l.length : Int) := by omega
   have : j = l.length := by omega
   subst this
   have HA2 := HA.out
   rw [List.drop_length] at HA2
   simp only [fndE] at HA2
   have HA3 := Aside0.mk HA2
   clear HA2
   go_wp2
   go_ret
   exact ⟨congrArg (fun z => Ending.returned (.int .i64 z)) HA3.out, BW.out⟩
set_option maxHeartbeats 800000 in
set_option maxRecDepth 100000 in
theorem fndE.calls (A : Option Addr) (c : Nat) (l : List S45) (key : ByteArray) (w : World) (hr : Kd.C k45 w A l.length l) :
  Calls Try.prog 70 #[.slice A l.length c, .string key] w fun e w' => e = .returned (.int .i64 (fndE key l 0)) ∧ Below w.heap.size w w' := by
 have HR := Aside0.mk hr
 clear hr
 have HI := fun (o : Obj) (ho : (w.alloc o).cell? ⟨w.heap.size, 0, none⟩ = some (.string key)) => fndE.idx A c l key w.heap.size (w.alloc o) (Kd.C_alloc HR.out _) (by simp) ho
 have HJ := Aside0.mk HI
 clear HI
 go_enter Try.func70, Try.ntmps70
 go_wp2_with (go_at_call 86; refine (HJ.out _ (by simp)).mono ?_; rintro e w' ⟨rfl, hb'⟩)
 go_ret
 exact ⟨rfl, below_then (below_alloc (Below.refl _ _) _) (by simp) hb'⟩

/-! ### a cache in memory; take: function 46 -/
/-- Block g is a cache: its numbers, its two rows. -/
structure Seg (w : World) (base g : Nat) (n o : Int) (vt vs : Value) (t s : List S45) : Prop where
 blk : w.heap[g]? = some (.cells #[.int .i64 n, .int .i64 o, vt, vs] 28 (0, 0))
 ge : base ≤ g
 ht : Kd.R k45 45 w base (fun k => some k ≠ vs.ownBlock) vt t
 hs : Kd.R k45 45 w base (fun k => some k ≠ vt.ownBlock) vs s
/-- But for block g and two rows all is as it was. -/
def KeptS (w w' : World) (g : Nat) (vt vs : Value) : Prop := w.heap.size ≤ w'.heap.size ∧ ∀ k, k < w.heap.size → k ≠ g → some k ≠ vt.ownBlock → some k ≠ vs.ownBlock → w'.heap[k]? = w.heap[k]?
/-- A row of entries leads nowhere but to its own block. -/
theorem row_ok {w : World} {base : Nat} {ok ok' : Nat → Prop} {v : Value} {xs : List S45} (h : k45.R 45 w base ok v xs) (h' : ∀ k, v.ownBlock = some k → ok' k) : k45.R 45 w base ok' v xs :=
 ⟨h', h.2.imp_ (fun p c hp => by rw [k45_openM hp]; exact k45_mkM _ _ _ _)⟩
theorem row_move {w w' : World} {base : Nat} {ok : Nat → Prop} {v : Value} {xs : List S45} (h : k45.R 45 w base ok v xs) (hm : ∀ k, v.ownBlock = some k → w'.heap[k]? = w.heap[k]?) : k45.R 45 w' base ok v xs :=
 row_ok (Kd.R_step (row_ok h (ok' := fun k => v.ownBlock = some k) (fun k hk => hk)) (fun k hk _ => hm k hk)) h.1
theorem fndE_range (key : ByteArray) : ∀ (l : List S45) (i : Nat), fndE key l i = -1 ∨ (∃ j, j < l.length ∧ fndE key l i = (i + j : Nat))
 | [], i => .inl rfl
 | x :: xs, i => by
  simp only [fndE]
  by_cases c : (x.f0.toList == key.toList) = true
  ·rw [if_pos c]; exact .inr ⟨0, by simp, by simp⟩
  ·rw [if_neg c]
   rcases fndE_range key xs (i + 1) with h | ⟨j, hj, h⟩
   ·exact .inl h
   ·exact .inr ⟨j + 1, by simp; omega, by
     have h' : fndE key xs ((i : Int) + 1) = ((i + 1 + j : Nat) : Int) := h
     rw [h']; omega⟩
theorem fndE_at (key : ByteArray) (l : List S45) : fndE key l 0 = -1 ∨ (∃ j : Nat, j < l.length ∧ fndE key l 0 = j) := by
 rcases fndE_range key l 0 with h | ⟨j, hj, h⟩
 ·exact .inl h
 ·exact .inr ⟨j, hj, by rw [show (0 : Int) = ((0 : Nat) : Int) from rfl, h]; omega⟩
def takeE (key : ByteArray) (t s : List S45) : S45 × Bool × Bool × List S45 × List S45 :=
 if 0 ≤ fndE key s 0 then (rd_T45 s (fndE key s 0), true, true, t, s.eraseIdx (fndE key s 0).toNat)
 else if 0 ≤ fndE key t 0 then (rd_T45 t (fndE key t 0), false, true, t.eraseIdx (fndE key t 0).toNat, s)
 else (z45, false, false, t, s)
set_option maxHeartbeats 1000000 in
set_option maxRecDepth 100000 in
theorem take_safe (base g : Nat) (n o : Int) (vt vs : Value) (t s : List S45) (key : ByteArray) (w0 w : World) (hS : Seg w base g n o vt vs t s) (hB : Below base w0 w) (hsz : base ≤ w.heap.size) (i : Nat) (hi : i < s.length) (hf : fndE key s 0 = i) :
  Calls Try.prog 46 #[.pointer (some ⟨g, 0, none⟩), .string key] w fun e w' => e = .returned (.tuple #[.agg #[.string (rd_T45 s i).f0, .string (rd_T45 s i).f1], .bool true, .bool true]) ∧ (∃ vt' vs', Seg w' base g n o vt' vs' t (s.eraseIdx i)) ∧ Below base w0 w' ∧ KeptS w w' g vt vs := by
 obtain ⟨g1, cap, ev, _, _, _⟩ := Kd.R_form hS.hs (by omega)
 subst ev
 have HS := Aside0.mk hS
 have HB := Aside0.mk hB
 have hgl := blk_lt hS.blk
 have GL := Aside0.mk hgl
 have HSZ := Aside0.mk hsz
 have hi0 : decide (0 ≤ (i : Int)) = true := decide_eq_true (by omega)
 have hi1 : (0 ≤ (i : Int)) = True := eq_true (by omega)
 have hi2 : ((i : Int) < (s.length : Int)) = True := eq_true (by omega)
 have hmx := Kd.C_max (Kd.R_reads' hS.hs).2.2
 have hw : wrap64 ((i : Int) + 1) = (i : Int) + 1 := by unfold wrap64; omega
 have HF := Aside0.mk hf
 have HI := Aside0.mk hi
 have hc3 : w.cell? ⟨g, 3, none⟩ = some (.slice (some ⟨g1, 0, none⟩) s.length cap) := (blk_cell hS.blk 3).trans rfl
 clear hS hB hf hsz
 go_enter Try.func46, Try.ntmps46
 go_wp2_with (first
  | ((with_reducible refine gate_dst (N := 4) rfl ?_); refine box_event ?hg (N := 4) ?hd (cs := #[.string ⟨#[]⟩, .string ⟨#[]⟩]) (t := 45) ?hr ?_; (case hd => rfl); (case hg => rfl); (case hr => first | (go_simp; done) | (go_simp; rfl)); intro g4 hg4 w1 hb4 hb; have HG4 := Aside0.mk hg4; have B1 := Aside0.mk hb; have K4 := Aside0.mk hb4; have KG := Aside0.mk (blk_below HS.out.blk hb); clear hg4 hb4 hb hc3; have hc3 : w1.cell? ⟨g, 3, none⟩ = some (.slice (some ⟨g1, 0, none⟩) s.length cap) := (blk_cell KG.out 3).trans rfl)
  | (go_at_call 70; refine (fndE.calls (some ⟨g1, 0, none⟩) cap s key _ (Kd.C_below (Kd.R_reads' HS.out.hs).2.2 B1.out)).mono ?_; rintro e w2 ⟨rfl, hb⟩; rw [HF.out]; have B2 := Aside0.mk (below_then B1.out B1.out.size hb); have K4b := Aside0.mk (blk_below K4.out hb); have KG2 := Aside0.mk (blk_below KG.out hb); clear hb hc3; have hc3 : w2.cell? ⟨g, 3, none⟩ = some (.slice (some ⟨g1, 0, none⟩) s.length cap) := (blk_cell KG2.out 3).trans rfl; obtain ⟨ad, ea, hx0, hx1⟩ := at_T45 (Kd.C_below (Kd.R_reads' HS.out.hs).2.2 B2.out) (i : Int) (by omega) (by omega); cases ea; simp only [Int.toNat_natCast, add_plain] at hx0 hx1; have hg2 : g < w2.heap.size := blk_lt KG2.out; have hg42 : g4 < w2.heap.size := blk_lt K4b.out)
  | (go_at_call 71; refine (slices_DeleteE.calls base g1 cap i (fun k => some k ≠ vt.ownBlock) s _ (Kd.R_alloc (Kd.R_below HS.out.hs B2.out) _) HI.out).mono ?_; rintro e w3 ⟨rfl, ho, hgr⟩; have HO3 := Aside0.mk ho; have HGR := Aside0.mk hgr; have hg1l := Kd.R_lt HS.out.hs g1 rfl; have hne1 : g ≠ g1 := (fun h_ => Kd.R_ne HS.out.hs HS.out.blk (by decide) (by rw [h_]; rfl)); have hne2 : g4 ≠ g1 := (by have := HG4.out; omega); have hs2 := B2.out.size; have hne3 : w2.heap.size ≠ g1 := (by omega); have KG3 := Aside0.mk (blk_grown (blk_alloc KG2.out _) hgr (by simpa using hne1)); have K43 := Aside0.mk (blk_grown (blk_alloc K4b.out _) hgr (by simpa using hne2)); have K83 := Aside0.mk (blk_grown (blk_new w2 _) hgr (by simpa using hne3)); clear ho hgr hx0 hx1 hc3; have hk0 := (blk_cell K83.out 0).trans rfl; have hk1 := (blk_cell K83.out 1).trans rfl; have hq0 := (blk_cell KG3.out 3).trans rfl; have hq1 := blk_frozen KG3.out 3; have hr0 := (blk_cell K43.out 0).trans rfl; have hr1 := (blk_cell K43.out 1).trans rfl; have hr2 := blk_frozen K43.out 0; have hr3 := blk_frozen K43.out 1; have hn1 : w2.heap.size ≠ g := (by omega); have hn2 : g4 ≠ g := (by have := HG4.out; have := GL.out; omega); have hn3 : g ≠ g4 := hn2.symm))
 have hg4l : g4 = w.heap.size := HG4.out
 have hfin : ∀ k, k < w.heap.size → k ≠ g → k ≠ g1 → (((w3.setCell ⟨g, 3, none⟩ (.slice (some ⟨g1, 0, none⟩) (s.length - 1) cap)).setCell ⟨g4, 0, none⟩ (.string (rd_T45 s (i : Int)).f0)).setCell ⟨g4, 1, none⟩ (.string (rd_T45 s (i : Int)).f1)).heap[k]? = w.heap[k]? := by
  intro k hk h1 h2
  have hs := B2.out.size
  rw [Below.heap_setCell _ _ _ k (by show k ≠ g4; omega), Below.heap_setCell _ _ _ k (by show k ≠ g4; omega), Below.heap_setCell _ _ _ k (by show k ≠ g; omega), HGR.out.block k (by simp only [World.size_alloc]; omega) (by simpa using h2), Below.heap_alloc _ _ k (by omega), B2.out.block k hk]
 have hsz3 := HGR.out.size
 simp only [World.size_alloc] at hsz3
 refine bodyPost_ret (results_ctt rfl _ _ g4 45 #[.string (rd_T45 s (i : Int)).f0, .string (rd_T45 s (i : Int)).f1] (0, 0) _ rfl (by refine blk_put (cs := #[.string (rd_T45 s (i : Int)).f0, .string ⟨#[]⟩]) ?_ 1 _ rfl; refine blk_put (cs := #[.string ⟨#[]⟩, .string ⟨#[]⟩]) ?_ 0 _ rfl; exact blk_far K43.out hn2 _) Try.underlying45 rfl (by kernel_rfl)) rfl ?_
 refine ⟨rfl, ⟨vt, .slice (some ⟨g1, 0, none⟩) (s.length - 1) cap, ⟨?_, HS.out.ge, ?_, ?_⟩⟩, ?_, ?_⟩
 ·refine blk_far ?_ hn3 _
  refine blk_far ?_ hn3 _
  exact blk_put (cs := #[.int .i64 n, .int .i64 o, vt, .slice (some ⟨g1, 0, none⟩) s.length cap]) KG3.out 3 _ rfl
 ·refine row_move (row_ok HS.out.ht (fun k hk => HS.out.ht.1 k hk)) (fun k hk => hfin k (Kd.R_lt HS.out.ht k hk) (fun e => Kd.R_ne HS.out.ht HS.out.blk (by decide) (by rw [hk, e])) (fun e => HS.out.ht.1 k hk (by rw [e]; rfl)))
 ·refine row_move HO3.out (fun k hk => ?_)
  obtain rfl : g1 = k := by simpa [Value.ownBlock] using hk
  rw [Below.heap_setCell _ _ _ g1 (by show g1 ≠ g4; omega), Below.heap_setCell _ _ _ g1 (by show g1 ≠ g4; omega), Below.heap_setCell _ _ _ g1 (by show g1 ≠ g; omega)]
 ·have hsz := HSZ.out
  exact (((((HB.out.trans (B2.out.mono hsz)).alloc (by omega) _).grown HGR.out (by simp only [World.size_alloc]; omega) (fun k hk => by cases hk; exact Kd.R_base HS.out.hs g1 rfl)).setCell HS.out.ge _).setCell (by show base ≤ g4; omega) _).setCell (by show base ≤ g4; omega) _
 ·refine ⟨by simp only [World.setCell, Array.size_modify]; omega, fun k hk h1 _ h3 => hfin k hk h1 (fun e => h3 (by rw [e]; rfl))⟩
set_option maxHeartbeats 1000000 in
set_option maxRecDepth 100000 in
theorem take_trial (base g : Nat) (n o : Int) (vt vs : Value) (t s : List S45) (key : ByteArray) (w0 w : World) (hS : Seg w base g n o vt vs t s) (hB : Below base w0 w) (hsz : base ≤ w.heap.size) (hf0 : fndE key s 0 = -1) (i : Nat) (hi : i < t.length) (hf : fndE key t 0 = i) :
  Calls Try.prog 46 #[.pointer (some ⟨g, 0, none⟩), .string key] w fun e w' => e = .returned (.tuple #[.agg #[.string (rd_T45 t i).f0, .string (rd_T45 t i).f1], .bool false, .bool true]) ∧ (∃ vt' vs', Seg w' base g n o vt' vs' (t.eraseIdx i) s) ∧ Below base w0 w' ∧ KeptS w w' g vt vs := by
 obtain ⟨g1, cap, ev, _, _, _⟩ := Kd.R_form hS.ht (by omega)
 subst ev
 obtain ⟨As, cs, es⟩ := Kd.R_slice hS.hs
 subst es
 have HS := Aside0.mk hS
 have HB := Aside0.mk hB
 have hgl := blk_lt hS.blk
 have GL := Aside0.mk hgl
 have HSZ := Aside0.mk hsz
 have hi0 : decide (0 ≤ (i : Int)) = true := decide_eq_true (by omega)
 have hi1 : (0 ≤ (i : Int)) = True := eq_true (by omega)
 have hi2 : ((i : Int) < (t.length : Int)) = True := eq_true (by omega)
 have hmx := Kd.C_max (Kd.R_reads' hS.ht).2.2
 have hw : wrap64 ((i : Int) + 1) = (i : Int) + 1 := by unfold wrap64; omega
 have HF := Aside0.mk hf
 have HF0 := Aside0.mk hf0
 have hm1 : decide ((0 : Int) ≤ -1) = false := by decide
 have HI := Aside0.mk hi
 have hc3 : w.cell? ⟨g, 3, none⟩ = some (.slice As s.length cs) := (blk_cell hS.blk 3).trans rfl
 clear hS hB hf hf0 hsz
 go_enter Try.func46, Try.ntmps46
 go_wp2_with (first
  | ((with_reducible refine gate_dst (N := 4) rfl ?_); refine box_event ?hg (N := 4) ?hd (cs := #[.string ⟨#[]⟩, .string ⟨#[]⟩]) (t := 45) ?hr ?_; (case hd => rfl); (case hg => rfl); (case hr => first | (go_simp; done) | (go_simp; rfl)); intro g4 hg4 w1 hb4 hb; have HG4 := Aside0.mk hg4; have B1 := Aside0.mk hb; have K4 := Aside0.mk hb4; have KG := Aside0.mk (blk_below HS.out.blk hb); clear hg4 hb4 hb hc3; have hc3 : w1.cell? ⟨g, 3, none⟩ = some (.slice As s.length cs) := (blk_cell KG.out 3).trans rfl)
  | (go_at_call 70; (with_reducible refine (fndE.calls As cs s key _ (Kd.C_below (Kd.R_reads' HS.out.hs).2.2 B1.out)).mono ?_); rintro e wm ⟨rfl, hb⟩; rw [HF0.out]; have BM := Aside0.mk (below_then B1.out B1.out.size hb); have K4m := Aside0.mk (blk_below K4.out hb); have KGm := Aside0.mk (blk_below KG.out hb); clear hb hc3; have hc3 : wm.cell? ⟨g, 2, none⟩ = some (.slice (some ⟨g1, 0, none⟩) t.length cap) := (blk_cell KGm.out 2).trans rfl)
  | (go_at_call 70; (with_reducible refine (fndE.calls (some ⟨g1, 0, none⟩) cap t key _ (Kd.C_below (Kd.R_reads' HS.out.ht).2.2 BM.out)).mono ?_); rintro e w2 ⟨rfl, hb⟩; rw [HF.out]; have B2 := Aside0.mk (below_then BM.out BM.out.size hb); have K4b := Aside0.mk (blk_below K4m.out hb); have KG2 := Aside0.mk (blk_below KGm.out hb); clear hb hc3; have hc3 : w2.cell? ⟨g, 2, none⟩ = some (.slice (some ⟨g1, 0, none⟩) t.length cap) := (blk_cell KG2.out 2).trans rfl; obtain ⟨ad, ea, hx0, hx1⟩ := at_T45 (Kd.C_below (Kd.R_reads' HS.out.ht).2.2 B2.out) (i : Int) (by omega) (by omega); cases ea; simp only [Int.toNat_natCast, add_plain] at hx0 hx1; have hg2 : g < w2.heap.size := blk_lt KG2.out; have hg42 : g4 < w2.heap.size := blk_lt K4b.out)
  | (go_at_call 71; refine (slices_DeleteE.calls base g1 cap i (fun k => some k ≠ (Value.slice As s.length cs).ownBlock) t _ (Kd.R_alloc (Kd.R_below HS.out.ht B2.out) _) HI.out).mono ?_; rintro e w3 ⟨rfl, ho, hgr⟩; have HO3 := Aside0.mk ho; have HGR := Aside0.mk hgr; have hg1l := Kd.R_lt HS.out.ht g1 rfl; have hne1 : g ≠ g1 := (fun h_ => Kd.R_ne HS.out.ht HS.out.blk (by decide) (by rw [h_]; rfl)); have hne2 : g4 ≠ g1 := (by have := HG4.out; omega); have hs2 := B2.out.size; have hne3 : w2.heap.size ≠ g1 := (by omega); have KG3 := Aside0.mk (blk_grown (blk_alloc KG2.out _) hgr (by simpa using hne1)); have K43 := Aside0.mk (blk_grown (blk_alloc K4b.out _) hgr (by simpa using hne2)); have K83 := Aside0.mk (blk_grown (blk_new w2 _) hgr (by simpa using hne3)); clear ho hgr hx0 hx1 hc3; have hk0 := (blk_cell K83.out 0).trans rfl; have hk1 := (blk_cell K83.out 1).trans rfl; have hq0 := (blk_cell KG3.out 2).trans rfl; have hq1 := blk_frozen KG3.out 2; have hr0 := (blk_cell K43.out 0).trans rfl; have hr1 := (blk_cell K43.out 1).trans rfl; have hr2 := blk_frozen K43.out 0; have hr3 := blk_frozen K43.out 1; have hn1 : w2.heap.size ≠ g := (by omega); have hn2 : g4 ≠ g := (by have := HG4.out; have := GL.out; omega); have hn3 : g ≠ g4 := hn2.symm))
 have hg4l : g4 = w.heap.size := HG4.out
 have hfin : ∀ k, k < w.heap.size → k ≠ g → k ≠ g1 → (((w3.setCell ⟨g, 2, none⟩ (.slice (some ⟨g1, 0, none⟩) (t.length - 1) cap)).setCell ⟨g4, 0, none⟩ (.string (rd_T45 t (i : Int)).f0)).setCell ⟨g4, 1, none⟩ (.string (rd_T45 t (i : Int)).f1)).heap[k]? = w.heap[k]? := by
  intro k hk h1 h2
  have hs := B2.out.size
  rw [Below.heap_setCell _ _ _ k (by show k ≠ g4; omega), Below.heap_setCell _ _ _ k (by show k ≠ g4; omega), Below.heap_setCell _ _ _ k (by show k ≠ g; omega), HGR.out.block k (by simp only [World.size_alloc]; omega) (by simpa using h2), Below.heap_alloc _ _ k (by omega), B2.out.block k hk]
 have hsz3 := HGR.out.size
 simp only [World.size_alloc] at hsz3
 refine bodyPost_ret (results_ctt rfl _ _ g4 45 #[.string (rd_T45 t (i : Int)).f0, .string (rd_T45 t (i : Int)).f1] (0, 0) _ rfl (by refine blk_put (cs := #[.string (rd_T45 t (i : Int)).f0, .string ⟨#[]⟩]) ?_ 1 _ rfl; refine blk_put (cs := #[.string ⟨#[]⟩, .string ⟨#[]⟩]) ?_ 0 _ rfl; exact blk_far K43.out hn2 _) Try.underlying45 rfl (by kernel_rfl)) rfl ?_
 refine ⟨rfl, ⟨.slice (some ⟨g1, 0, none⟩) (t.length - 1) cap, .slice As s.length cs, ⟨?_, HS.out.ge, ?_, ?_⟩⟩, ?_, ?_⟩
 ·refine blk_far ?_ hn3 _
  refine blk_far ?_ hn3 _
  exact blk_put (cs := #[.int .i64 n, .int .i64 o, .slice (some ⟨g1, 0, none⟩) t.length cap, .slice As s.length cs]) KG3.out 2 _ rfl
 ·refine row_move HO3.out (fun k hk => ?_)
  obtain rfl : g1 = k := by simpa [Value.ownBlock] using hk
  rw [Below.heap_setCell _ _ _ g1 (by show g1 ≠ g4; omega), Below.heap_setCell _ _ _ g1 (by show g1 ≠ g4; omega), Below.heap_setCell _ _ _ g1 (by show g1 ≠ g; omega)]
 ·refine row_move (row_ok HS.out.hs (fun k hk => HS.out.hs.1 k hk)) (fun k hk => hfin k (Kd.R_lt HS.out.hs k hk) (fun e => Kd.R_ne HS.out.hs HS.out.blk (by decide) (by rw [hk, e])) (fun e => HS.out.hs.1 k hk (by rw [e]; rfl)))
 ·have hsz := HSZ.out
  exact (((((HB.out.trans (B2.out.mono hsz)).alloc (by omega) _).grown HGR.out (by simp only [World.size_alloc]; omega) (fun k hk => by cases hk; exact Kd.R_base HS.out.ht g1 rfl)).setCell HS.out.ge _).setCell (by show base ≤ g4; omega) _).setCell (by show base ≤ g4; omega) _
 ·refine ⟨by simp only [World.setCell, Array.size_modify]; omega, fun k hk h1 h3 _ => hfin k hk h1 (fun e => h3 (by rw [e]; rfl))⟩
set_option maxHeartbeats 1000000 in
set_option maxRecDepth 100000 in
theorem take_none (base g : Nat) (n o : Int) (vt vs : Value) (t s : List S45) (key : ByteArray) (w0 w : World) (hS : Seg w base g n o vt vs t s) (hB : Below base w0 w) (hsz : base ≤ w.heap.size) (hf0 : fndE key s 0 = -1) (hf : fndE key t 0 = -1) :
  Calls Try.prog 46 #[.pointer (some ⟨g, 0, none⟩), .string key] w fun e w' => e = .returned (.tuple #[.agg #[.string ⟨#[]⟩, .string ⟨#[]⟩], .bool false, .bool false]) ∧ (∃ vt' vs', Seg w' base g n o vt' vs' t s) ∧ Below base w0 w' ∧ KeptS w w' g vt vs := by
 obtain ⟨At, ct, et⟩ := Kd.R_slice hS.ht
 subst et
 obtain ⟨As, cs, es⟩ := Kd.R_slice hS.hs
 subst es
 have HS := Aside0.mk hS
 have HB := Aside0.mk hB
 have hgl := blk_lt hS.blk
 have GL := Aside0.mk hgl
 have HSZ := Aside0.mk hsz
 have HF := Aside0.mk hf
 have HF0 := Aside0.mk hf0
 have hm1 : decide ((0 : Int) ≤ -1) = false := by decide
 have hc3 : w.cell? ⟨g, 3, none⟩ = some (.slice As s.length cs) := (blk_cell hS.blk 3).trans rfl
 clear hS hB hf hf0 hsz
 go_enter Try.func46, Try.ntmps46
 go_wp2_with (first
  | ((with_reducible refine gate_dst (N := 4) rfl ?_); refine box_event ?hg (N := 4) ?hd (cs := #[.string ⟨#[]⟩, .string ⟨#[]⟩]) (t := 45) ?hr ?_; (case hd => rfl); (case hg => rfl); (case hr => first | (go_simp; done) | (go_simp; rfl)); intro g4 hg4 w1 hb4 hb; have HG4 := Aside0.mk hg4; have B1 := Aside0.mk hb; have K4 := Aside0.mk hb4; have KG := Aside0.mk (blk_below HS.out.blk hb); clear hg4 hb4 hb hc3; have hc3 : w1.cell? ⟨g, 3, none⟩ = some (.slice As s.length cs) := (blk_cell KG.out 3).trans rfl)
  | (go_at_call 70; (with_reducible refine (fndE.calls As cs s key w1 (Kd.C_below (Kd.R_reads' HS.out.hs).2.2 B1.out)).mono ?_); rintro e wm ⟨rfl, hb⟩; rw [HF0.out]; have BM := Aside0.mk (below_then B1.out B1.out.size hb); have K4m := Aside0.mk (blk_below K4.out hb); have KGm := Aside0.mk (blk_below KG.out hb); clear hb hc3; have hc3 : wm.cell? ⟨g, 2, none⟩ = some (.slice At t.length ct) := (blk_cell KGm.out 2).trans rfl)
  | (go_at_call 70; (with_reducible refine (fndE.calls At ct t key _ (Kd.C_below (Kd.R_reads' HS.out.ht).2.2 BM.out)).mono ?_); rintro e w2 ⟨rfl, hb⟩; rw [HF.out]; have B2 := Aside0.mk (below_then BM.out BM.out.size hb); have K42 := Aside0.mk (blk_below K4m.out hb); have KG2 := Aside0.mk (blk_below KGm.out hb); clear hb hc3; have hr0 := (blk_cell K42.out 0).trans rfl; have hr1 := (blk_cell K42.out 1).trans rfl; have hr2 := blk_frozen K42.out 0; have hr3 := blk_frozen K42.out 1))
 have hg4l : g4 = w.heap.size := HG4.out
 have hn3 : g ≠ g4 := by omega
 have hfin : ∀ k, k < w.heap.size → ((w2.setCell ⟨g4, 0, none⟩ (.string ⟨#[]⟩)).setCell ⟨g4, 1, none⟩ (.string ⟨#[]⟩)).heap[k]? = w.heap[k]? := by
  intro k hk
  rw [Below.heap_setCell _ _ _ k (by show k ≠ g4; omega), Below.heap_setCell _ _ _ k (by show k ≠ g4; omega), B2.out.block k hk]
 refine bodyPost_ret (results_ctt rfl _ _ g4 45 #[.string ⟨#[]⟩, .string ⟨#[]⟩] (0, 0) _ rfl (by refine blk_put (cs := #[.string ⟨#[]⟩, .string ⟨#[]⟩]) ?_ 1 _ rfl; exact blk_put (cs := #[.string ⟨#[]⟩, .string ⟨#[]⟩]) K42.out 0 _ rfl) Try.underlying45 rfl (by kernel_rfl)) rfl ?_
 refine ⟨rfl, ⟨.slice At t.length ct, .slice As s.length cs, ⟨(hfin g GL.out).trans HS.out.blk, HS.out.ge, ?_, ?_⟩⟩, ?_, ?_⟩
 ·exact row_move HS.out.ht (fun k hk => hfin k (Kd.R_lt HS.out.ht k hk))
 ·exact row_move HS.out.hs (fun k hk => hfin k (Kd.R_lt HS.out.hs k hk))
 ·have hsz := HSZ.out
  exact ((HB.out.trans (B2.out.mono hsz)).setCell (by show base ≤ g4; omega) _).setCell (by show base ≤ g4; omega) _
 ·refine ⟨by simp only [World.setCell, Array.size_modify]; exact B2.out.size, fun k hk _ _ _ => hfin k hk⟩
theorem take.calls (base g : Nat) (n o : Int) (vt vs : Value) (t s : List S45) (key : ByteArray) (w0 w : World) (hS : Seg w base g n o vt vs t s) (hB : Below base w0 w) (hsz : base ≤ w.heap.size) :
  Calls Try.prog 46 #[.pointer (some ⟨g, 0, none⟩), .string key] w fun e w' => e = .returned (.tuple #[.agg #[.string (takeE key t s).1.f0, .string (takeE key t s).1.f1], .bool (takeE key t s).2.1, .bool (takeE key t s).2.2.1]) ∧ (∃ vt' vs', Seg w' base g n o vt' vs' (takeE key t s).2.2.2.1 (takeE key t s).2.2.2.2) ∧ Below base w0 w' ∧ KeptS w w' g vt vs := by
 unfold takeE
 rcases fndE_at key s with h | ⟨i, hi, h⟩
 ·rcases fndE_at key t with h' | ⟨i, hi, h'⟩
  ·rw [h, h', if_neg (by omega), if_neg (by omega)]
   exact take_none base g n o vt vs t s key w0 w hS hB hsz h h'
  ·rw [h, h', if_neg (by omega), if_pos (by omega)]
   exact take_trial base g n o vt vs t s key w0 w hS hB hsz h i hi h'
 ·rw [h, if_pos (by omega)]
  exact take_safe base g n o vt vs t s key w0 w hS hB hsz i hi h

/-! ### own's numbers -/
/-- own's numbers are those that came in. -/
theorem own_numbers {a0_0 a0_1 : Int} {l0_2 l0_3 : List S45} {r1 r2 : Int} {r3 r4 : List S45} (h : impl_Segmented_own.f a0_0 a0_1 l0_2 l0_3 = some (r1, r2, r3, r4)) : a0_0 = r1 ∧ a0_1 = r2 := by
 unfold impl_Segmented_own.f at h
 obtain ⟨_, _, h⟩ := Option.bind_eq_some_iff.mp h
 obtain ⟨_, _, h⟩ := Option.bind_eq_some_iff.mp h
 simp only [Option.some.injEq, Prod.mk.injEq] at h
 exact ⟨h.1, h.2.1⟩

-- NOT PRINTED: function 83 (impl_Entry_83)

/-! ### slices.Grow of nil, slices.Concat over rows of entries: functions 83, 60 -/
set_option maxHeartbeats 2000000 in
set_option maxRecDepth 100000 in
theorem slices_GrowE.calls (m : Nat) (w : World) (hm : m < 4398046511104) :
  Calls Try.prog 83 #[.slice none 0 0, .int .i64 m] w fun e w' => ∃ v0_ : Value, e = .returned v0_ ∧ Kd.R k45 45 w' w.heap.size (fun _ => True) v0_ [] ∧ Below w.heap.size w w' := by
 by_cases h0 : m = 0
 ·subst h0
  go_enter Try.func83, Try.ntmps83
  go_wp2
  go_ret
  exact ⟨_, rfl, Kd.R_nil _ _ _ _ _, Below.refl _ _⟩
 ·have hp : (0 : Int) < m := by omega
  have hnn : ¬ ((m : Int) < 0) := by omega
  have LM := Aside0.mk hm
  have hb1 : decide ((0 : Int) < m) = true := decide_eq_true hp
  have hb2 : decide ((m : Int) < 0) = false := decide_eq_false hnn
  go_enter Try.func83, Try.ntmps83
  go_wp2_with (first
   | ((with_reducible refine gate_builtin (b := .append) (xs := #[.tmp 20, .tmp 21]) rfl ?_); at_builtin; refine Kd.R_append_zeros k45 (w0 := w) w.heap.size rfl (.tmp 20) (.tmp 21) 26 3 45 (.agg #[(.string ⟨#[]⟩), (.string ⟨#[]⟩)]) 32 rfl Try.underlying26 Try.underlying3 info45 rfl (by decide) (by omega) (.slice none 0 0) [] z45 (kx := .i64) (m : Int) (fun _ => True) rfl ?aX ?aZ ?aF ?aO ?a0 ?aB ?aS ?aL ?_; (case aX => first | rfl | (show Value.int .i64 _ = _; congr 1; unfold wrap64; omega)); (case aZ => exact k45_mkM _ _ _ z45); (case aF => exact (fun _ _ => trivial)); (case aO => exact Kd.R_nil _ _ _ _ _); (case a0 => omega); (case aB => exact Below.refl _ _); (case aS => exact Nat.le_refl _); (case aL => have := LM.out; simp only [List.length_nil, Int.toNat_natCast]; omega); intro v2 w2 ho hb hg hat; have HO2 := Aside0.mk ho; have HB2 := Aside0.mk hb; clear ho hb hg hat; obtain ⟨g, cap, ev, hg1, hg2, hg3⟩ := Kd.R_form HO2.out (by simp; omega); subst ev; clear hg1 hg2 hg3))
  go_ret
  refine ⟨_, rfl, ?_, HB2.out⟩
  have := Kd.R_take (m := 0) HO2.out (Nat.zero_le _)
  simpa using this
def slices_ConcatE.f (xss : List (List S45)) : Option (List S45) := if xss.flatten.length < 4398046511104 then some xss.flatten else none
def rd_E45 (xs : List (List S45)) (i : Int) : (List S45) := xs.getD i.toNat ([] : List S45)
theorem at_E45 {w : World} {A : Option Addr} {n : Nat} {xs : List (List S45)} (h : Kd.C (Kd.slice 45 k45) w A n xs) (i : Int) (h0 : 0 ≤ i) (h1 : i < n) : ∃ ad A0 c0, A = some ad ∧ w.cell? (ad.add i.toNat) = some (.slice A0 (rd_E45 xs i).length c0) ∧ (rd_E45 xs i).length ≤ c0 ∧ k45.C w A0 (rd_E45 xs i).length (rd_E45 xs i) := by
 obtain ⟨ad, c, e, _, hK, hc0⟩ := Kd.C_get h ([] : List S45) i h0 h1
 have hc : ∀ j u, c[j]? = some u → w.cell? (ad.add (i.toNat * 1 + j)) = some u := hc0
 obtain ⟨A0, c0, rfl, l0, g0⟩ := hK
 exact ⟨ad, A0, c0, e, by have hq := hc 0 _ rfl; rwa [Nat.mul_one, Nat.add_zero] at hq, l0, g0⟩
theorem flat_take (xss : List (List S45)) (j : Nat) (hj : j < xss.length) : (xss.take (j + 1)).flatten = (xss.take j).flatten ++ rd_E45 xss (j : Int) := by
 have e : rd_E45 xss (j : Int) = xss[j] := by
  show xss.getD j _ = _
  rw [List.getD_eq_getElem?_getD, List.getElem?_eq_getElem hj]; rfl
 rw [e, List.take_succ_eq_append_getElem hj, List.flatten_append]; simp
theorem flat_le (xss : List (List S45)) (j : Nat) : (xss.take j).flatten.length ≤ xss.flatten.length := by
 conv => rhs; rw [← List.take_append_drop j xss, List.flatten_append, List.length_append]
 omega
set_option maxHeartbeats 4000000 in
set_option maxRecDepth 100000 in
theorem slices_ConcatE.calls (A0 : Option Addr) (c0 : Nat) (xss : List (List S45)) (r : List S45) (w : World) (hr0 : Kd.C (Kd.slice 45 k45) w A0 xss.length xss) (h : slices_ConcatE.f xss = some r) :
  Calls Try.prog 60 #[.slice A0 xss.length c0] w fun e w' => ∃ v0_ : Value, e = .returned v0_ ∧ Kd.R k45 45 w' w.heap.size (fun _ => True) v0_ r ∧ Below w.heap.size w w' := by
 unfold slices_ConcatE.f at h
 by_cases c : xss.flatten.length < 4398046511104
 ·rw [if_pos c, Option.some.injEq] at h
  subst h
  have LM := Aside0.mk c
  have hm := Kd.C_max hr0
  have HR := Aside0.mk hr0
  clear hr0 c
  go_enter Try.func60, Try.ntmps60
  go_wp2
  go_loopg [3, 5, 11] xss.length (fun gg s3 _ s11 wr => ∃ j p : Nat, j ≤ xss.length ∧ xss.length - j ≤ gg ∧ s11 = .int .i64 j ∧ s3 = .int .i64 (p : Int) ∧ Aside0 (p = (xss.take j).flatten.length) ∧ w = wr)
  case atStart => exact ⟨0, 0, Nat.zero_le _, by omega, rfl, rfl, ⟨by simp⟩, rfl⟩
  case round =>
   obtain ⟨j, p, hj, hg, rfl, rfl, HP, rfl⟩ := hrel
   by_cases hlt : j < xss.length
   ·have hlt' : (j : Int) < (xss.length : Int) := by omega
    have h0 : (0 : Int) ≤ (j : Int) := by omega
    obtain ⟨ad, A1, c1, ea, hx, _, _⟩ := at_E45 HR.out (j : Int) h0 hlt'
    cases ea
    simp only [Int.toNat_natCast] at hx
    have ef := flat_take xss j hlt
    have el := flat_le xss (j + 1)
    have hsum : (p : Int) + (((rd_E45 xss (j : Int)).length : Nat) : Int) = ((xss.take (j + 1)).flatten.length : Nat) := by rw [ef, List.length_append, HP.out]; push_cast; rfl
    have hlim : (xss.take (j + 1)).flatten.length < 4398046511104 := Nat.lt_of_le_of_lt el LM.out
    obtain ⟨q, hq⟩ : ∃ q, q = (xss.take (j + 1)).flatten.length := ⟨_, rfl⟩
    rw [← hq] at hsum hlim
    have HQ := Aside0.mk hq
    clear hq
    generalize rd_E45 xss (j : Int) = y at hx hsum
    have hq0 : decide ((q : Int) < 0) = false := decide_eq_false (by omega)
    have hw3 : wrap64 (q : Int) = (q : Int) := by unfold wrap64; omega
    have hlt2 := decide_eq_true hlt'
    clear ef el hlim
    go_wp2
    go_roundg (xss.length - (j + 1))
    case measure => omega
    case rel => exact ⟨j + 1, q, by omega, by omega, by go_num, (by rw [hw3]), HQ, rfl⟩
   ·have hlt' : ¬ (j : Int) < (xss.length : Int) := by omega
    obtain rfl : j = xss.length := by omega
    have hp : p < 4398046511104 := by rw [HP.out, List.take_length]; exact LM.out
    go_wp2_with (go_at_call 83; refine (slices_GrowE.calls p _ hp).mono ?_; rintro e w1 ⟨v1, rfl, ho, hb⟩; have HO := Aside0.mk ho; have HB := Aside0.mk hb; clear ho hb)
    go_loopg [6, 8, 27] xss.length (fun gg s6 _ s27 w' => ∃ j : Nat, j ≤ xss.length ∧ xss.length - j ≤ gg ∧ s27 = .int .i64 j ∧ Aside0 (Kd.R k45 45 w' w.heap.size (fun _ => True) s6 (xss.take j).flatten) ∧ Aside0 (Below w.heap.size w w'))
    case atStart => exact ⟨0, Nat.zero_le _, by omega, rfl, HO, HB⟩
    case round =>
     obtain ⟨j, hj, hg, rfl, HO6, HB6⟩ := hrel
     by_cases hlt : j < xss.length
     ·have hlt' : (j : Int) < (xss.length : Int) := by omega
      have h0 : (0 : Int) ≤ (j : Int) := by omega
      obtain ⟨ad, A1, c1, ea, hx, _, hC⟩ := at_E45 (Kd.C_below HR.out HB6.out) (j : Int) h0 hlt'
      cases ea
      simp only [Int.toNat_natCast] at hx
      have ef := flat_take xss j hlt
      have hlim : (xss.take (j + 1)).flatten.length < 4398046511104 := Nat.lt_of_le_of_lt (flat_le xss (j + 1)) LM.out
      rw [ef, List.length_append] at hlim
      have EF := Aside0.mk ef
      have HL := Aside0.mk hlim
      generalize rd_E45 xss (j : Int) = y at hx EF HL hC
      have HC := Aside0.mk hC
      clear ef hlim hC
      go_wp2_with (first
       | ((with_reducible refine gate_builtin (b := .append) (xs := #[.tmp 31, .tmp 32]) rfl ?_); at_builtin; refine Kd.R_append_rows k45 (w0 := w) w.heap.size rfl (.tmp 31) (.tmp 32) 26 45 (.agg #[(.string ⟨#[]⟩), (.string ⟨#[]⟩)]) 32 rfl Try.underlying26 info45 rfl (by decide) (by omega) u6 (xss.take j).flatten y _ _ _ (fun _ => True) (fun _ => False) rfl rfl ?aO ?aR (fun _ _ h => h) (fun _ h => h.elim) ?aF ?aB ?aS ?aL ?_; (case aR => exact HC.out); (case aB => exact HB6.out); (case aF => exact (fun _ _ => trivial)); (case aO => exact HO6.out); (case aS => exact HB6.out.size); (case aL => have := HL.out; omega); intro v2 w2 ho hb hg hat; have HO2 := Aside0.mk ho; have HB2 := Aside0.mk hb; clear ho hb hg hat))
      go_roundg (xss.length - (j + 1))
      case measure => omega
      case rel => exact ⟨j + 1, by omega, by omega, by go_num, ⟨by rw [EF.out]; exact HO2.out⟩, HB2⟩
     ·have hlt' : ¬ (j : Int) < (xss.length : Int) := by omega
      obtain rfl : j = xss.length := by omega
      have HO7 := HO6.out
      rw [List.take_length] at HO7
      have HO8 := Aside0.mk HO7
      clear HO7
      go_wp2
      go_ret
      exact ⟨_, rfl, HO8.out, HB6.out⟩
 ·rw [if_neg c] at h; exact absurd h (by simp)

end Go.Proofs.Ytfopmaiednikhaa.PFnExactPlaySegmented
