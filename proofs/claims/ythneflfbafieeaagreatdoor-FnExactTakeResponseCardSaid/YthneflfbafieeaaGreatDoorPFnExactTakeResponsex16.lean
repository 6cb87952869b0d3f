-- written by a program of this session (wip/tool)
import Derived.Test.YthneflfbafieeaaGreatDoorPFnExactTakeResponsex0
import Derived.Test.YthneflfbafieeaaGreatDoorPFnExactTakeResponsex8
import Derived.Test.YthneflfbafieeaaGreatDoorPFnExactTakeResponsex13
import Derived.Test.YthneflfbafieeaaGreatDoorPFnExactTakeResponsex14
import Derived.Test.YthneflfbafieeaaGreatDoorPFnExactTakeResponsex15
import Derived.Test.YthneflfbafieeaaGreatDoorVOwn0
import Derived.Test.YthneflfbafieeaaGreatDoorVOwnOpen
import Derived.WalkKit
import Derived.BigCall
import Derived.Test.YthneflfbafieeaaGreatDoorOwnTr
import Derived.Test.YthneflfbafieeaaGreatDoorVOwnShort
namespace Go.Proofs.YthneflfbafieeaaGreatDoor.PFnExactTakeResponse
open Go.RowKit Go.Proofs.YthneflfbafieeaaGreatDoorW.PrintWords Go.Proofs.YthneflfbafieeaaGreatDoorW.PrintLast Go.Proofs.YthneflfbafieeaaGreatDoorW.PrintMore Go.Shelf Go.Proofs.YthneflfbafieeaaGreatDoorOwn
attribute [local go_sem] max2_int min2_int max_two min_two max_three min_three max_four min_four   -- for this text's walks alone
set_option linter.unusedVariables false
set_option linter.unusedSimpArgs false

/-! ### laws_FnExactTakeResponse: function 4 -/
mutual
def laws_FnExactTakeResponse.j0 : Nat → ByteArray → Int → Int → Bool → Int → ByteArray → List (S75) → ByteArray → Int → ByteArray → List (S75) → ByteArray → Option (Bool)
 | 0, _, _, _, _, _, _, _, _, _, _, _, _ => none
 | k + 1, x0, x4, x5, x42, x316000, x316001, x316002, x316003, x325000, x325001, x325002, x325003 => if x42 = true then (none) else ((laws_markResponse.f k x325000 x325001 x325002 x325003 1).bind fun bt326 => ((laws_heldResponse.f k x325000 x325001 bt326.2 x325003 1).bind fun t328 => (if t328 < 0 then (none) else (if t328 = bt326.1 then ((impl_TakeResponse.f k x0).bind fun bt329 => ((laws_eqResponse.f k bt329.1 bt329.2.1 bt329.2.2.1 bt329.2.2.2.1 x316000 x316001 x316002 x316003).bind fun t338 => (if t338 = true then (if bt329.2.2.2.2.1 = x4 then (laws_FnExactTakeResponse.j1 k bt326.1 (bt329.2.2.2.2.2 != x5) x325000 x325001 bt326.2 x325003) else (laws_FnExactTakeResponse.j1 k bt326.1 true x325000 x325001 bt326.2 x325003)) else (laws_FnExactTakeResponse.j1 k bt326.1 true x325000 x325001 bt326.2 x325003)))) else (none)))))
def laws_FnExactTakeResponse.j1 : Nat → Int → Bool → Int → ByteArray → List (S75) → ByteArray → Option (Bool)
 | 0, _, _, _, _, _, _ => none
 | k + 1, x9, x73, x325000, x325001, x325002, x325003 => if x73 = true then (none) else ((laws_heldResponse.f k x325000 x325001 x325002 x325003 1).bind fun t339 => (if t339 < 0 then (none) else (if t339 = x9 then (some true) else (none))))
end
def laws_FnExactTakeResponse.f (k : Nat) (a0 : ByteArray) : Option (Bool) := if (a0.size : Int) > 1048576 then (some true) else ((spec_TakeResponse.f k a0).bind fun bt307 => ((impl_TakeResponse.f k a0).bind fun bt316 => ((laws_eqResponse.f k bt316.1 bt316.2.1 bt316.2.2.1 bt316.2.2.2.1 bt307.1 bt307.2.1 bt307.2.2.1 bt307.2.2.2.1).bind fun t325 => (if t325 = true then (if bt316.2.2.2.2.1 = bt307.2.2.2.2.1 then (laws_FnExactTakeResponse.j0 k a0 bt307.2.2.2.2.1 bt307.2.2.2.2.2 (bt316.2.2.2.2.2 != bt307.2.2.2.2.2) bt307.1 bt307.2.1 bt307.2.2.1 bt307.2.2.2.1 bt316.1 bt316.2.1 bt316.2.2.1 bt316.2.2.2.1) else (laws_FnExactTakeResponse.j0 k a0 bt307.2.2.2.2.1 bt307.2.2.2.2.2 true bt307.1 bt307.2.1 bt307.2.2.1 bt307.2.2.2.1 bt316.1 bt316.2.1 bt316.2.2.1 bt316.2.2.2.1)) else (laws_FnExactTakeResponse.j0 k a0 bt307.2.2.2.2.1 bt307.2.2.2.2.2 true bt307.1 bt307.2.1 bt307.2.2.1 bt307.2.2.2.1 bt316.1 bt316.2.1 bt316.2.2.1 bt316.2.2.2.1)))))
theorem laws_FnExactTakeResponse.mono_l : ∀ k, (∀ y0 y1 y2 y3 y4 y5 y6 y7 y8 y9 y10 y11, LeO (laws_FnExactTakeResponse.j0 k y0 y1 y2 y3 y4 y5 y6 y7 y8 y9 y10 y11) (laws_FnExactTakeResponse.j0 (k + 1) y0 y1 y2 y3 y4 y5 y6 y7 y8 y9 y10 y11)) ∧ (∀ y0 y1 y2 y3 y4 y5, LeO (laws_FnExactTakeResponse.j1 k y0 y1 y2 y3 y4 y5) (laws_FnExactTakeResponse.j1 (k + 1) y0 y1 y2 y3 y4 y5))
 | 0 => ⟨fun _ _ _ _ _ _ _ _ _ _ _ _ r h => by simp [laws_FnExactTakeResponse.j0] at h, fun _ _ _ _ _ _ r h => by simp [laws_FnExactTakeResponse.j1] at h⟩
 | k + 1 => by
  obtain ⟨ih0, ih1⟩ := laws_FnExactTakeResponse.mono_l k
  refine ⟨?_, ?_⟩
  ·intro y0 y1 y2 y3 y4 y5 y6 y7 y8 y9 y10 y11
   unfold laws_FnExactTakeResponse.j0
   repeat' first
   | (with_reducible exact ih0 _ _ _ _ _ _ _ _ _ _ _ _)
   | (with_reducible exact ih1 _ _ _ _ _ _)
   | (with_reducible exact impl_TakeResponse.mono _ _)
   | (with_reducible exact laws_eqResponse.mono _ _ _ _ _ _ _ _ _)
   | (with_reducible exact laws_heldResponse.mono _ _ _ _ _ _)
   | (with_reducible exact laws_markResponse.mono _ _ _ _ _ _)
   | (with_reducible exact spec_TakeResponse.mono _ _)
   | (with_reducible exact LeO.refl _)
   | (with_reducible exact LeO.none _)
   | (with_reducible refine LeO.ite ?_ ?_)
   | (with_reducible refine LeO.bind ?_ (fun _ => ?_))
   | exact ih0 _ _ _ _ _ _ _ _ _ _ _ _
   | exact ih1 _ _ _ _ _ _
   | exact impl_TakeResponse.mono _ _
   | exact laws_eqResponse.mono _ _ _ _ _ _ _ _ _
   | exact laws_heldResponse.mono _ _ _ _ _ _
   | exact laws_markResponse.mono _ _ _ _ _ _
   | exact spec_TakeResponse.mono _ _
   | exact LeO.none _
   | refine LeO.ite ?_ ?_
   | refine LeO.bind ?_ (fun _ => ?_)
  ·intro y0 y1 y2 y3 y4 y5
   unfold laws_FnExactTakeResponse.j1
   repeat' first
   | (with_reducible exact ih0 _ _ _ _ _ _ _ _ _ _ _ _)
   | (with_reducible exact ih1 _ _ _ _ _ _)
   | (with_reducible exact impl_TakeResponse.mono _ _)
   | (with_reducible exact laws_eqResponse.mono _ _ _ _ _ _ _ _ _)
   | (with_reducible exact laws_heldResponse.mono _ _ _ _ _ _)
   | (with_reducible exact laws_markResponse.mono _ _ _ _ _ _)
   | (with_reducible exact spec_TakeResponse.mono _ _)
   | (with_reducible exact LeO.refl _)
   | (with_reducible exact LeO.none _)
   | (with_reducible refine LeO.ite ?_ ?_)
   | (with_reducible refine LeO.bind ?_ (fun _ => ?_))
   | exact ih0 _ _ _ _ _ _ _ _ _ _ _ _
   | exact ih1 _ _ _ _ _ _
   | exact impl_TakeResponse.mono _ _
   | exact laws_eqResponse.mono _ _ _ _ _ _ _ _ _
   | exact laws_heldResponse.mono _ _ _ _ _ _
   | exact laws_markResponse.mono _ _ _ _ _ _
   | exact spec_TakeResponse.mono _ _
   | exact LeO.none _
   | refine LeO.ite ?_ ?_
   | refine LeO.bind ?_ (fun _ => ?_)
theorem laws_FnExactTakeResponse.mono : ∀ a0 k, LeO (laws_FnExactTakeResponse.f k a0) (laws_FnExactTakeResponse.f (k + 1) a0) := by
 intro a0 k
 obtain ⟨ih0, ih1⟩ := laws_FnExactTakeResponse.mono_l k
 unfold laws_FnExactTakeResponse.f
 repeat' first
   | (with_reducible exact ih0 _ _ _ _ _ _ _ _ _ _ _ _)
   | (with_reducible exact ih1 _ _ _ _ _ _)
   | (with_reducible exact impl_TakeResponse.mono _ _)
   | (with_reducible exact laws_eqResponse.mono _ _ _ _ _ _ _ _ _)
   | (with_reducible exact laws_heldResponse.mono _ _ _ _ _ _)
   | (with_reducible exact laws_markResponse.mono _ _ _ _ _ _)
   | (with_reducible exact spec_TakeResponse.mono _ _)
   | (with_reducible exact LeO.refl _)
   | (with_reducible exact LeO.none _)
   | (with_reducible refine LeO.ite ?_ ?_)
   | (with_reducible refine LeO.bind ?_ (fun _ => ?_))
   | exact ih0 _ _ _ _ _ _ _ _ _ _ _ _
   | exact ih1 _ _ _ _ _ _
   | exact impl_TakeResponse.mono _ _
   | exact laws_eqResponse.mono _ _ _ _ _ _ _ _ _
   | exact laws_heldResponse.mono _ _ _ _ _ _
   | exact laws_markResponse.mono _ _ _ _ _ _
   | exact spec_TakeResponse.mono _ _
   | exact LeO.none _
   | refine LeO.ite ?_ ?_
   | refine LeO.bind ?_ (fun _ => ?_)
set_option maxHeartbeats 8000000 in
set_option maxRecDepth 100000 in
theorem laws_FnExactTakeResponse.calls (k : Nat) (a0 : ByteArray) (r : Bool) (w : World) (h : laws_FnExactTakeResponse.f k a0 = some r) (ht : Glob w) :
  Calls Tryz.prog 4 #[.string a0] w fun e w' => e = .returned (.bool r) ∧ Below w.heap.size w w' := by
 have hu31 := Tryz.underlying31
 have HT := Aside0.mk ht
 clear ht
 have HB := Aside0.mk (Below.refl w.heap.size w)
 have H : (if (a0.size : Int) > 1048576 then (some true) else ((spec_TakeResponse.f k a0).bind fun bt307 => ((impl_TakeResponse.f k a0).bind fun bt316 => ((laws_eqResponse.f k bt316.1 bt316.2.1 bt316.2.2.1 bt316.2.2.2.1 bt307.1 bt307.2.1 bt307.2.2.1 bt307.2.2.2.1).bind fun t325 => (if t325 = true then (if bt316.2.2.2.2.1 = bt307.2.2.2.2.1 then (laws_FnExactTakeResponse.j0 k a0 bt307.2.2.2.2.1 bt307.2.2.2.2.2 (bt316.2.2.2.2.2 != bt307.2.2.2.2.2) bt307.1 bt307.2.1 bt307.2.2.1 bt307.2.2.2.1 bt316.1 bt316.2.1 bt316.2.2.1 bt316.2.2.2.1) else (laws_FnExactTakeResponse.j0 k a0 bt307.2.2.2.2.1 bt307.2.2.2.2.2 true bt307.1 bt307.2.1 bt307.2.2.1 bt307.2.2.2.1 bt316.1 bt316.2.1 bt316.2.2.1 bt316.2.2.2.1)) else (laws_FnExactTakeResponse.j0 k a0 bt307.2.2.2.2.1 bt307.2.2.2.2.2 true bt307.1 bt307.2.1 bt307.2.2.1 bt307.2.2.2.1 bt316.1 bt316.2.1 bt316.2.2.1 bt316.2.2.2.1)))))) = some r := h
 clear h
 by_cases c2 : (a0.size : Int) > 1048576
 ·rw [if_pos c2] at H
  have c2b0 : decide (1048576 < (a0.size : Int)) = true := decide_eq_true c2
  have c2b1 : decide (1048576 < a0.size) = true := decide_eq_true (by omega)
  clear c2
  obtain rfl := Option.some.inj H
  go_enter Tryz.func4, Tryz.ntmps4
  go_wp2
  go_ret
  exact ⟨by first | rfl | (simp [errW_none, errW_some] <;> rfl) | (simp [*, errW_none, errW_some] <;> rfl), bl HB.out⟩
 ·rw [if_neg c2] at H
  have c2b0 : decide (1048576 < (a0.size : Int)) = false := decide_eq_false c2
  have c2b1 : decide (1048576 < a0.size) = false := decide_eq_false (by omega)
  clear c2
  replace H := Option.bind_eq_some_iff.mp H
  obtain ⟨⟨t307, t308, t309, t312, t313, t314⟩, A30, H⟩ := H
  try dsimp only at H
  have A3 := Aside0.mk A30
  clear A30
  replace H := Option.bind_eq_some_iff.mp H
  obtain ⟨⟨t316, t317, t318, t321, t322, t323⟩, A40, H⟩ := H
  try dsimp only at H
  have A4 := Aside0.mk A40
  clear A40
  have HC5 := Aside0.mk H
  clear H
  go_enter Tryz.func4, Tryz.ntmps4
  go_upto_region 5 with (first | ((with_reducible refine gate_callee (f := 11) rfl ?_); refine goesL_ (some 19) rfl rfl Tryz.func11 (by kernel_rfl) rfl #[.string a0] rfl (by (try simp only [List.map_toArray, List.map_cons, List.map_nil]); first | done | rfl | (simp only [List.length_drop, List.length_take]; rfl)) ?_; (with_reducible refine (spec_TakeResponse.calls k a0 t307 t308 t309 t312 t313 t314 _ A3.out).mono ?_); rintro e w6 ⟨v310, rfl, ho0, hb⟩; refine ⟨_, rfl, ?_⟩; have n0_ := Aside0.mk (Kd.R_lower ho0 (below_size (bl HB.out))); have n1_ := Aside0.mk (below_step (bl HB.out) hb); clear HB; have HO311 := n0_; have HB := n1_; clear n0_ n1_; (try clear hb); (try clear hb2); (try clear hk); (try clear hi); (try clear ho0)) | ((with_reducible refine gate_dst (N := 3) rfl ?_); refine box_event ?hg (N := 3) ?hd (cs := #[.int .i64 0, .string (⟨#[]⟩ : ByteArray), .slice none 0 0, .string (⟨#[]⟩ : ByteArray)]) (t := 31) ?hr ?_; (case hd => rfl); (case hg => rfl); (case hr => first | (go_simp; done) | (go_simp; rfl)); intro gb315 hg w7 hbox hb; have n0_ := Aside0.mk (Kd.R_below (kr HO311.out) hb); have n1_ := Aside0.mk (below_step (bl HB.out) hb); have n2_ := Aside0.mk (hbox); have n3_ := Aside0.mk ((by rw [hg]; exact (below_size (bl HB.out)) : w.heap.size ≤ gb315)); have n4_ := Aside0.mk ((by rw [hg]; exact (below_size (bl HB.out)) : w.heap.size ≤ gb315)); clear HO311; clear HB; have HO311 := n0_; have HB := n1_; have BK315 := n2_; have GW315 := n3_; have GE315 := n4_; clear n0_ n1_ n2_ n3_ n4_; clear hb hbox hg; have hcz8_0 : w7.cell? ⟨gb315, 0, none⟩ = some (.int .i64 0) := (blk_cell BK315.out 0).trans rfl; have hcz8_1 : w7.cell? ⟨gb315, 1, none⟩ = some (.string (⟨#[]⟩ : ByteArray)) := (blk_cell BK315.out 1).trans rfl; have hcz8_2 : w7.cell? ⟨gb315, 2, none⟩ = some (.slice none 0 0) := (blk_cell BK315.out 2).trans rfl; have hcz8_3 : w7.cell? ⟨gb315, 3, none⟩ = some (.string (⟨#[]⟩ : ByteArray)) := (blk_cell BK315.out 3).trans rfl; have hfz8_0 := blk_frozen BK315.out 0; have hfz8_1 := blk_frozen BK315.out 1; have hfz8_2 := blk_frozen BK315.out 2; have hfz8_3 := blk_frozen BK315.out 3; obtain ⟨Ao9, co9, eo9⟩ := Kd.R_slice HO311.out; subst eo9) | ((with_reducible refine gate_callee (f := 12) rfl ?_); refine goesL_ (some 25) rfl rfl Tryz.func12 (by kernel_rfl) rfl #[.string a0] rfl (by (try simp only [List.map_toArray, List.map_cons, List.map_nil]); first | done | rfl | (simp only [List.length_drop, List.length_take]; rfl)) ?_; (with_reducible refine (impl_TakeResponse.calls k a0 t316 t317 t318 t321 t322 t323 _ A4.out (globg HT.out (bl1 HB.out GE315.out))).mono ?_); rintro e w10 ⟨v319, rfl, ho0, hb⟩; refine ⟨_, rfl, ?_⟩; have n0_ := Aside0.mk (Kd.R_elder' (by (with_reducible repeat (first | apply Kd.R_alloc | apply Kd.R_drewN | apply Kd.R_drew)); exact (Kd.R_mono (Kd.R_far (p := ⟨gb315, 3, none⟩) (Kd.R_far (p := ⟨gb315, 2, none⟩) (Kd.R_far (p := ⟨gb315, 1, none⟩) (Kd.R_far (p := ⟨gb315, 0, none⟩) (Kd.R_types HO311.out BK315.out (by decide)) (fun _ hk => hk.2) (.int .i64 t307)) (fun _ hk => hk.2) (.string t308)) (fun _ hk => hk.2) (.slice Ao9 t309.length co9)) (fun _ hk => hk.2) (.string t312)) (fun _ h_ => h_.1))) (Kd.R_base ho0) hb); have n1_ := Aside0.mk (Kd.R_lower (Kd.R_new' ho0 (Kd.R_lt (by (with_reducible repeat (first | apply Kd.R_alloc | apply Kd.R_drewN | apply Kd.R_drew)); exact (Kd.R_mono (Kd.R_far (p := ⟨gb315, 3, none⟩) (Kd.R_far (p := ⟨gb315, 2, none⟩) (Kd.R_far (p := ⟨gb315, 1, none⟩) (Kd.R_far (p := ⟨gb315, 0, none⟩) (Kd.R_types HO311.out BK315.out (by decide)) (fun _ hk => hk.2) (.int .i64 t307)) (fun _ hk => hk.2) (.string t308)) (fun _ hk => hk.2) (.slice Ao9 t309.length co9)) (fun _ hk => hk.2) (.string t312)) (fun _ h_ => h_.1))))) (below_size (bl1 HB.out GE315.out))); have n2_ := Aside0.mk (blk_below (g := gb315) (o := .cells #[.int .i64 t307, .string t308, .slice Ao9 t309.length co9, .string t312] 31 (0, 0)) (by (with_reducible repeat (first | refine blk_drewN ?_ _ | refine blk_drew ?_ | refine blk_alloc ?_ _)); refine blk_put (cs := #[.int .i64 t307, .string t308, .slice Ao9 t309.length co9, .string (⟨#[]⟩ : ByteArray)]) ?_ 3 _ rfl; (with_reducible repeat (first | refine blk_drewN ?_ _ | refine blk_drew ?_ | refine blk_alloc ?_ _)); refine blk_put (cs := #[.int .i64 t307, .string t308, .slice none 0 0, .string (⟨#[]⟩ : ByteArray)]) ?_ 2 _ rfl; (with_reducible repeat (first | refine blk_drewN ?_ _ | refine blk_drew ?_ | refine blk_alloc ?_ _)); refine blk_put (cs := #[.int .i64 t307, .string (⟨#[]⟩ : ByteArray), .slice none 0 0, .string (⟨#[]⟩ : ByteArray)]) ?_ 1 _ rfl; (with_reducible repeat (first | refine blk_drewN ?_ _ | refine blk_drew ?_ | refine blk_alloc ?_ _)); refine blk_put (cs := #[.int .i64 0, .string (⟨#[]⟩ : ByteArray), .slice none 0 0, .string (⟨#[]⟩ : ByteArray)]) ?_ 0 _ rfl; exact bk BK315.out) hb); have n3_ := Aside0.mk (below_step (bl1 HB.out GE315.out) hb); clear HO311; clear BK315; clear HB; have HO311 := n0_; have HO320 := n1_; have BK315 := n2_; have HB := n3_; clear n0_ n1_ n2_ n3_; (try clear hb); (try clear hb2); (try clear hk); (try clear hi); (try clear ho0)) | ((with_reducible refine gate_dst (N := 6) rfl ?_); refine box_event ?hg (N := 6) ?hd (cs := #[.int .i64 0, .string (⟨#[]⟩ : ByteArray), .slice none 0 0, .string (⟨#[]⟩ : ByteArray)]) (t := 31) ?hr ?_; (case hd => rfl); (case hg => rfl); (case hr => first | (go_simp; done) | (go_simp; rfl)); intro gb324 hg w11 hbox hb; have n0_ := Aside0.mk (Kd.R_below (kr HO311.out) hb); have n1_ := Aside0.mk (Kd.R_below (kr HO320.out) hb); have n2_ := Aside0.mk (blk_below (g := gb315) (o := .cells #[.int .i64 t307, .string t308, .slice Ao9 t309.length co9, .string t312] 31 (0, 0)) (bk BK315.out) hb); have n3_ := Aside0.mk (below_step (bl1 HB.out GE315.out) hb); have n4_ := Aside0.mk (hbox); have n5_ := Aside0.mk ((by rw [hg]; exact (below_size (bl1 HB.out GE315.out)) : w.heap.size ≤ gb324)); have n6_ := Aside0.mk ((by rw [hg]; exact (below_size (bl1 HB.out GE315.out)) : w.heap.size ≤ gb324)); have n7_ := Aside0.mk ((by rw [hg]; exact Nat.ne_of_lt (blk_lt (g := gb315) (o := .cells #[.int .i64 t307, .string t308, .slice Ao9 t309.length co9, .string t312] 31 (0, 0)) (bk BK315.out)) : gb315 ≠ gb324)); have n8_ := Aside0.mk ((by rw [hg]; exact Nat.ne_of_gt (blk_lt (g := gb315) (o := .cells #[.int .i64 t307, .string t308, .slice Ao9 t309.length co9, .string t312] 31 (0, 0)) (bk BK315.out)) : gb324 ≠ gb315)); clear HO311; clear HO320; clear BK315; clear HB; have HO311 := n0_; have HO320 := n1_; have BK315 := n2_; have HB := n3_; have BK324 := n4_; have GW324 := n5_; have GE324 := n6_; have NB315_324 := n7_; have NB324_315 := n8_; clear n0_ n1_ n2_ n3_ n4_ n5_ n6_ n7_ n8_; clear hb hbox hg; have hnb12 := NB324_315.out; have hnc12 := NB315_324.out; have hcz13_0 : w11.cell? ⟨gb324, 0, none⟩ = some (.int .i64 0) := (blk_cell BK324.out 0).trans rfl; have hcz13_1 : w11.cell? ⟨gb324, 1, none⟩ = some (.string (⟨#[]⟩ : ByteArray)) := (blk_cell BK324.out 1).trans rfl; have hcz13_2 : w11.cell? ⟨gb324, 2, none⟩ = some (.slice none 0 0) := (blk_cell BK324.out 2).trans rfl; have hcz13_3 : w11.cell? ⟨gb324, 3, none⟩ = some (.string (⟨#[]⟩ : ByteArray)) := (blk_cell BK324.out 3).trans rfl; have hfz13_0 := blk_frozen BK324.out 0; have hfz13_1 := blk_frozen BK324.out 1; have hfz13_2 := blk_frozen BK324.out 2; have hfz13_3 := blk_frozen BK324.out 3; obtain ⟨Ao14, co14, eo14⟩ := Kd.R_slice HO320.out; subst eo14))
  (try simp only [Act.put, List.setIfInBounds_toArray, List.set_cons_zero, List.set_cons_succ])
  go_cut [42] (fun v42 wc => ∃ (kq : Nat) (x42_4 : Bool), v42 = .bool x42_4 ∧ Aside0 (laws_FnExactTakeResponse.j0 kq a0 t313 t314 x42_4 t307 t308 t309 t312 t316 t317 t318 t321 = some r) ∧ Aside0 (kq ≤ k) ∧ Aside0 (Kd.R k75 75 wc w.heap.size (fun k_ => some k_ ≠ ((.slice Ao14 t318.length co14) : Value).ownBlock) (.slice Ao9 t309.length co9) t309) ∧ Aside0 (Kd.R k75 75 wc w.heap.size (fun k_ => some k_ ≠ ((.slice Ao9 t309.length co9) : Value).ownBlock) (.slice Ao14 t318.length co14) t318) ∧ Aside0 (wc.heap[gb315]? = some (.cells #[.int .i64 t307, .string t308, (.slice Ao9 t309.length co9), .string t312] 31 (0, 0))) ∧ Aside0 (wc.heap[gb324]? = some (.cells #[.int .i64 t316, .string t317, (.slice Ao14 t318.length co14), .string t321] 31 (0, 0))) ∧ Aside0 (Below w.heap.size w wc))
  case first =>
   have H := HC5.out
   clear HC5
   replace H := Option.bind_eq_some_iff.mp H
   obtain ⟨t325, A150, H⟩ := H
   try dsimp only at H
   have A15 := Aside0.mk A150
   clear A150
   by_cases c16 : t325 = true
   ·subst c16
    have H1 : (if t322 = t313 then (laws_FnExactTakeResponse.j0 k a0 t313 t314 (t323 != t314) t307 t308 t309 t312 t316 t317 t318 t321) else (laws_FnExactTakeResponse.j0 k a0 t313 t314 true t307 t308 t309 t312 t316 t317 t318 t321)) = some r := by rw [if_pos rfl] at H; exact H
    clear H
    have H := H1
    clear H1
    by_cases c17 : t322 = t313
    ·rw [if_pos c17] at H
     have c17b0 : (t322 == t313) = true := beq_iff_eq.mpr c17
     have c17b1 : (t322 != t313) = false := bne_eq_false_iff_eq.mpr c17
     clear c17
     (first | rw [c17b0] | (simp only [i64_w, i32_w]; rw [c17b0]) | skip)
     have H' := Aside0.mk H
     clear H
     have hnb18 := NB324_315.out
     have hnc18 := NB315_324.out
     have hcz19_0 : w11.cell? ⟨gb324, 0, none⟩ = some (.int .i64 0) := (blk_cell BK324.out 0).trans rfl
     have hcz19_1 : w11.cell? ⟨gb324, 1, none⟩ = some (.string (⟨#[]⟩ : ByteArray)) := (blk_cell BK324.out 1).trans rfl
     have hcz19_2 : w11.cell? ⟨gb324, 2, none⟩ = some (.slice none 0 0) := (blk_cell BK324.out 2).trans rfl
     have hcz19_3 : w11.cell? ⟨gb324, 3, none⟩ = some (.string (⟨#[]⟩ : ByteArray)) := (blk_cell BK324.out 3).trans rfl
     have hfz19_0 := blk_frozen BK324.out 0
     have hfz19_1 := blk_frozen BK324.out 1
     have hfz19_2 := blk_frozen BK324.out 2
     have hfz19_3 := blk_frozen BK324.out 3
     have hcz20_0 : w11.cell? ⟨gb315, 0, none⟩ = some (.int .i64 t307) := (blk_cell BK315.out 0).trans rfl
     have hcz20_1 : w11.cell? ⟨gb315, 1, none⟩ = some (.string t308) := (blk_cell BK315.out 1).trans rfl
     have hcz20_2 : w11.cell? ⟨gb315, 2, none⟩ = some (.slice Ao9 t309.length co9) := (blk_cell BK315.out 2).trans rfl
     have hcz20_3 : w11.cell? ⟨gb315, 3, none⟩ = some (.string t312) := (blk_cell BK315.out 3).trans rfl
     have hfz20_0 := blk_frozen BK315.out 0
     have hfz20_1 := blk_frozen BK315.out 1
     have hfz20_2 := blk_frozen BK315.out 2
     have hfz20_3 := blk_frozen BK315.out 3
     go_wp2_with (first | ((with_reducible refine gate_callee (f := 13) rfl ?_); refine goesL_ (some 31) rfl rfl Tryz.func13 (by kernel_rfl) rfl #[.agg #[.int .i64 t316, .string t317, .slice Ao14 t318.length co14, .string t321], .agg #[.int .i64 t307, .string t308, .slice Ao9 t309.length co9, .string t312]] rfl (by (try simp only [List.map_toArray, List.map_cons, List.map_nil]); first | done | rfl | (simp only [List.length_drop, List.length_take]; rfl)) ?_; (with_reducible refine (laws_eqResponse.calls k t316 t317 _ _ t318 t321 t307 t308 _ _ t309 t312 true _ ?side1 ?side2 ?side3 ?side4 A15.out).mono ?_); (case side1 => refine (Kd.R_reads' (e := 75) (base := w.heap.size) (ok := fun k_ => (True ∧ some k_ ≠ (.slice Ao9 t309.length co9 : Value).ownBlock)) (n := t318.length) (c := co14) ?_).2.2; exact (by (with_reducible repeat (first | apply Kd.R_alloc | apply Kd.R_drewN | apply Kd.R_drew)); exact (Kd.R_mono (Kd.R_far (p := ⟨gb324, 3, none⟩) (Kd.R_far (p := ⟨gb324, 2, none⟩) (Kd.R_far (p := ⟨gb324, 1, none⟩) (Kd.R_far (p := ⟨gb324, 0, none⟩) (Kd.R_types HO320.out BK324.out (by decide)) (fun _ hk => hk.2) (.int .i64 t316)) (fun _ hk => hk.2) (.string t317)) (fun _ hk => hk.2) (.slice Ao14 t318.length co14)) (fun _ hk => hk.2) (.string t321)) (fun _ h_ => h_.1)))); (case side2 => exact (Kd.R_reads' HO320.out).2.1); (case side3 => refine (Kd.R_reads' (e := 75) (base := w.heap.size) (ok := fun k_ => (True ∧ some k_ ≠ (.slice Ao14 t318.length co14 : Value).ownBlock)) (n := t309.length) (c := co9) ?_).2.2; exact (by (with_reducible repeat (first | apply Kd.R_alloc | apply Kd.R_drewN | apply Kd.R_drew)); exact (Kd.R_mono (Kd.R_far (p := ⟨gb324, 3, none⟩) (Kd.R_far (p := ⟨gb324, 2, none⟩) (Kd.R_far (p := ⟨gb324, 1, none⟩) (Kd.R_far (p := ⟨gb324, 0, none⟩) (Kd.R_types HO311.out BK324.out (by decide)) (fun _ hk => hk.2) (.int .i64 t316)) (fun _ hk => hk.2) (.string t317)) (fun _ hk => hk.2) (.slice Ao14 t318.length co14)) (fun _ hk => hk.2) (.string t321)) (fun _ h_ => h_.1)))); (case side4 => exact (Kd.R_reads' HO311.out).2.1); rintro e w21 ⟨rfl, hb⟩; refine ⟨_, rfl, ?_⟩; have n0_ := Aside0.mk (Kd.R_below (by (with_reducible repeat (first | apply Kd.R_alloc | apply Kd.R_drewN | apply Kd.R_drew)); exact (Kd.R_mono (Kd.R_far (p := ⟨gb324, 3, none⟩) (Kd.R_far (p := ⟨gb324, 2, none⟩) (Kd.R_far (p := ⟨gb324, 1, none⟩) (Kd.R_far (p := ⟨gb324, 0, none⟩) (Kd.R_types HO311.out BK324.out (by decide)) (fun _ hk => hk.2) (.int .i64 t316)) (fun _ hk => hk.2) (.string t317)) (fun _ hk => hk.2) (.slice Ao14 t318.length co14)) (fun _ hk => hk.2) (.string t321)) (fun _ h_ => h_.1))) hb); have n1_ := Aside0.mk (Kd.R_below (by (with_reducible repeat (first | apply Kd.R_alloc | apply Kd.R_drewN | apply Kd.R_drew)); exact (Kd.R_mono (Kd.R_far (p := ⟨gb324, 3, none⟩) (Kd.R_far (p := ⟨gb324, 2, none⟩) (Kd.R_far (p := ⟨gb324, 1, none⟩) (Kd.R_far (p := ⟨gb324, 0, none⟩) (Kd.R_types HO320.out BK324.out (by decide)) (fun _ hk => hk.2) (.int .i64 t316)) (fun _ hk => hk.2) (.string t317)) (fun _ hk => hk.2) (.slice Ao14 t318.length co14)) (fun _ hk => hk.2) (.string t321)) (fun _ h_ => h_.1))) hb); have n2_ := Aside0.mk (blk_below (g := gb315) (o := .cells #[.int .i64 t307, .string t308, .slice Ao9 t309.length co9, .string t312] 31 (0, 0)) (by (with_reducible repeat (first | refine blk_drewN ?_ _ | refine blk_drew ?_ | refine blk_alloc ?_ _)); refine blk_far ?_ NB315_324.out _; (with_reducible repeat (first | refine blk_drewN ?_ _ | refine blk_drew ?_ | refine blk_alloc ?_ _)); refine blk_far ?_ NB315_324.out _; (with_reducible repeat (first | refine blk_drewN ?_ _ | refine blk_drew ?_ | refine blk_alloc ?_ _)); refine blk_far ?_ NB315_324.out _; (with_reducible repeat (first | refine blk_drewN ?_ _ | refine blk_drew ?_ | refine blk_alloc ?_ _)); refine blk_far ?_ NB315_324.out _; exact bk BK315.out) hb); have n3_ := Aside0.mk (blk_below (g := gb324) (o := .cells #[.int .i64 t316, .string t317, .slice Ao14 t318.length co14, .string t321] 31 (0, 0)) (by (with_reducible repeat (first | refine blk_drewN ?_ _ | refine blk_drew ?_ | refine blk_alloc ?_ _)); refine blk_put (cs := #[.int .i64 t316, .string t317, .slice Ao14 t318.length co14, .string (⟨#[]⟩ : ByteArray)]) ?_ 3 _ rfl; (with_reducible repeat (first | refine blk_drewN ?_ _ | refine blk_drew ?_ | refine blk_alloc ?_ _)); refine blk_put (cs := #[.int .i64 t316, .string t317, .slice none 0 0, .string (⟨#[]⟩ : ByteArray)]) ?_ 2 _ rfl; (with_reducible repeat (first | refine blk_drewN ?_ _ | refine blk_drew ?_ | refine blk_alloc ?_ _)); refine blk_put (cs := #[.int .i64 t316, .string (⟨#[]⟩ : ByteArray), .slice none 0 0, .string (⟨#[]⟩ : ByteArray)]) ?_ 1 _ rfl; (with_reducible repeat (first | refine blk_drewN ?_ _ | refine blk_drew ?_ | refine blk_alloc ?_ _)); refine blk_put (cs := #[.int .i64 0, .string (⟨#[]⟩ : ByteArray), .slice none 0 0, .string (⟨#[]⟩ : ByteArray)]) ?_ 0 _ rfl; exact bk BK324.out) hb); have n4_ := Aside0.mk (below_step (bl2 HB.out GE315.out GE324.out) hb); clear HO311; clear HO320; clear BK315; clear BK324; clear HB; have HO311 := n0_; have HO320 := n1_; have BK315 := n2_; have BK324 := n3_; have HB := n4_; clear n0_ n1_ n2_ n3_ n4_; (try clear hb); (try clear hb2); (try clear hk); (try clear hi)))
     go_meet
     case rel => exact ⟨_, ((t323 != t314)), (by first | rfl | (simp; done) | (simp [*]; done)), H', ⟨by first | omega | exact Nat.le_refl _⟩, ⟨by (with_reducible repeat (first | apply Kd.R_alloc | apply Kd.R_drewN | apply Kd.R_drew)); exact Kd.R_mono HO311.out (fun _ hk => hk.2)⟩, ⟨by (with_reducible repeat (first | apply Kd.R_alloc | apply Kd.R_drewN | apply Kd.R_drew)); exact Kd.R_mono HO320.out (fun _ hk => hk.2)⟩, ⟨bk BK315.out⟩, ⟨bk BK324.out⟩, ⟨bl2 HB.out GE315.out GE324.out⟩⟩
    ·rw [if_neg c17] at H
     have c17b0 : (t322 == t313) = false := beq_eq_false_iff_ne.mpr c17
     have c17b1 : (t322 != t313) = true := bne_iff_ne.mpr c17
     (first | rw [c17b0] | (simp only [i64_w, i32_w]; rw [c17b0]) | skip)
     have H' := Aside0.mk H
     clear H
     have hnb22 := NB324_315.out
     have hnc22 := NB315_324.out
     have hcz23_0 : w11.cell? ⟨gb324, 0, none⟩ = some (.int .i64 0) := (blk_cell BK324.out 0).trans rfl
     have hcz23_1 : w11.cell? ⟨gb324, 1, none⟩ = some (.string (⟨#[]⟩ : ByteArray)) := (blk_cell BK324.out 1).trans rfl
     have hcz23_2 : w11.cell? ⟨gb324, 2, none⟩ = some (.slice none 0 0) := (blk_cell BK324.out 2).trans rfl
     have hcz23_3 : w11.cell? ⟨gb324, 3, none⟩ = some (.string (⟨#[]⟩ : ByteArray)) := (blk_cell BK324.out 3).trans rfl
     have hfz23_0 := blk_frozen BK324.out 0
     have hfz23_1 := blk_frozen BK324.out 1
     have hfz23_2 := blk_frozen BK324.out 2
     have hfz23_3 := blk_frozen BK324.out 3
     have hcz24_0 : w11.cell? ⟨gb315, 0, none⟩ = some (.int .i64 t307) := (blk_cell BK315.out 0).trans rfl
     have hcz24_1 : w11.cell? ⟨gb315, 1, none⟩ = some (.string t308) := (blk_cell BK315.out 1).trans rfl
     have hcz24_2 : w11.cell? ⟨gb315, 2, none⟩ = some (.slice Ao9 t309.length co9) := (blk_cell BK315.out 2).trans rfl
     have hcz24_3 : w11.cell? ⟨gb315, 3, none⟩ = some (.string t312) := (blk_cell BK315.out 3).trans rfl
     have hfz24_0 := blk_frozen BK315.out 0
     have hfz24_1 := blk_frozen BK315.out 1
     have hfz24_2 := blk_frozen BK315.out 2
     have hfz24_3 := blk_frozen BK315.out 3
     go_wp2_with (first | ((with_reducible refine gate_callee (f := 13) rfl ?_); refine goesL_ (some 31) rfl rfl Tryz.func13 (by kernel_rfl) rfl #[.agg #[.int .i64 t316, .string t317, .slice Ao14 t318.length co14, .string t321], .agg #[.int .i64 t307, .string t308, .slice Ao9 t309.length co9, .string t312]] rfl (by (try simp only [List.map_toArray, List.map_cons, List.map_nil]); first | done | rfl | (simp only [List.length_drop, List.length_take]; rfl)) ?_; (with_reducible refine (laws_eqResponse.calls k t316 t317 _ _ t318 t321 t307 t308 _ _ t309 t312 true _ ?side1 ?side2 ?side3 ?side4 A15.out).mono ?_); (case side1 => refine (Kd.R_reads' (e := 75) (base := w.heap.size) (ok := fun k_ => (True ∧ some k_ ≠ (.slice Ao9 t309.length co9 : Value).ownBlock)) (n := t318.length) (c := co14) ?_).2.2; exact (by (with_reducible repeat (first | apply Kd.R_alloc | apply Kd.R_drewN | apply Kd.R_drew)); exact (Kd.R_mono (Kd.R_far (p := ⟨gb324, 3, none⟩) (Kd.R_far (p := ⟨gb324, 2, none⟩) (Kd.R_far (p := ⟨gb324, 1, none⟩) (Kd.R_far (p := ⟨gb324, 0, none⟩) (Kd.R_types HO320.out BK324.out (by decide)) (fun _ hk => hk.2) (.int .i64 t316)) (fun _ hk => hk.2) (.string t317)) (fun _ hk => hk.2) (.slice Ao14 t318.length co14)) (fun _ hk => hk.2) (.string t321)) (fun _ h_ => h_.1)))); (case side2 => exact (Kd.R_reads' HO320.out).2.1); (case side3 => refine (Kd.R_reads' (e := 75) (base := w.heap.size) (ok := fun k_ => (True ∧ some k_ ≠ (.slice Ao14 t318.length co14 : Value).ownBlock)) (n := t309.length) (c := co9) ?_).2.2; exact (by (with_reducible repeat (first | apply Kd.R_alloc | apply Kd.R_drewN | apply Kd.R_drew)); exact (Kd.R_mono (Kd.R_far (p := ⟨gb324, 3, none⟩) (Kd.R_far (p := ⟨gb324, 2, none⟩) (Kd.R_far (p := ⟨gb324, 1, none⟩) (Kd.R_far (p := ⟨gb324, 0, none⟩) (Kd.R_types HO311.out BK324.out (by decide)) (fun _ hk => hk.2) (.int .i64 t316)) (fun _ hk => hk.2) (.string t317)) (fun _ hk => hk.2) (.slice Ao14 t318.length co14)) (fun _ hk => hk.2) (.string t321)) (fun _ h_ => h_.1)))); (case side4 => exact (Kd.R_reads' HO311.out).2.1); rintro e w25 ⟨rfl, hb⟩; refine ⟨_, rfl, ?_⟩; have n0_ := Aside0.mk (Kd.R_below (by (with_reducible repeat (first | apply Kd.R_alloc | apply Kd.R_drewN | apply Kd.R_drew)); exact (Kd.R_mono (Kd.R_far (p := ⟨gb324, 3, none⟩) (Kd.R_far (p := ⟨gb324, 2, none⟩) (Kd.R_far (p := ⟨gb324, 1, none⟩) (Kd.R_far (p := ⟨gb324, 0, none⟩) (Kd.R_types HO311.out BK324.out (by decide)) (fun _ hk => hk.2) (.int .i64 t316)) (fun _ hk => hk.2) (.string t317)) (fun _ hk => hk.2) (.slice Ao14 t318.length co14)) (fun _ hk => hk.2) (.string t321)) (fun _ h_ => h_.1))) hb); have n1_ := Aside0.mk (Kd.R_below (by (with_reducible repeat (first | apply Kd.R_alloc | apply Kd.R_drewN | apply Kd.R_drew)); exact (Kd.R_mono (Kd.R_far (p := ⟨gb324, 3, none⟩) (Kd.R_far (p := ⟨gb324, 2, none⟩) (Kd.R_far (p := ⟨gb324, 1, none⟩) (Kd.R_far (p := ⟨gb324, 0, none⟩) (Kd.R_types HO320.out BK324.out (by decide)) (fun _ hk => hk.2) (.int .i64 t316)) (fun _ hk => hk.2) (.string t317)) (fun _ hk => hk.2) (.slice Ao14 t318.length co14)) (fun _ hk => hk.2) (.string t321)) (fun _ h_ => h_.1))) hb); have n2_ := Aside0.mk (blk_below (g := gb315) (o := .cells #[.int .i64 t307, .string t308, .slice Ao9 t309.length co9, .string t312] 31 (0, 0)) (by (with_reducible repeat (first | refine blk_drewN ?_ _ | refine blk_drew ?_ | refine blk_alloc ?_ _)); refine blk_far ?_ NB315_324.out _; (with_reducible repeat (first | refine blk_drewN ?_ _ | refine blk_drew ?_ | refine blk_alloc ?_ _)); refine blk_far ?_ NB315_324.out _; (with_reducible repeat (first | refine blk_drewN ?_ _ | refine blk_drew ?_ | refine blk_alloc ?_ _)); refine blk_far ?_ NB315_324.out _; (with_reducible repeat (first | refine blk_drewN ?_ _ | refine blk_drew ?_ | refine blk_alloc ?_ _)); refine blk_far ?_ NB315_324.out _; exact bk BK315.out) hb); have n3_ := Aside0.mk (blk_below (g := gb324) (o := .cells #[.int .i64 t316, .string t317, .slice Ao14 t318.length co14, .string t321] 31 (0, 0)) (by (with_reducible repeat (first | refine blk_drewN ?_ _ | refine blk_drew ?_ | refine blk_alloc ?_ _)); refine blk_put (cs := #[.int .i64 t316, .string t317, .slice Ao14 t318.length co14, .string (⟨#[]⟩ : ByteArray)]) ?_ 3 _ rfl; (with_reducible repeat (first | refine blk_drewN ?_ _ | refine blk_drew ?_ | refine blk_alloc ?_ _)); refine blk_put (cs := #[.int .i64 t316, .string t317, .slice none 0 0, .string (⟨#[]⟩ : ByteArray)]) ?_ 2 _ rfl; (with_reducible repeat (first | refine blk_drewN ?_ _ | refine blk_drew ?_ | refine blk_alloc ?_ _)); refine blk_put (cs := #[.int .i64 t316, .string (⟨#[]⟩ : ByteArray), .slice none 0 0, .string (⟨#[]⟩ : ByteArray)]) ?_ 1 _ rfl; (with_reducible repeat (first | refine blk_drewN ?_ _ | refine blk_drew ?_ | refine blk_alloc ?_ _)); refine blk_put (cs := #[.int .i64 0, .string (⟨#[]⟩ : ByteArray), .slice none 0 0, .string (⟨#[]⟩ : ByteArray)]) ?_ 0 _ rfl; exact bk BK324.out) hb); have n4_ := Aside0.mk (below_step (bl2 HB.out GE315.out GE324.out) hb); clear HO311; clear HO320; clear BK315; clear BK324; clear HB; have HO311 := n0_; have HO320 := n1_; have BK315 := n2_; have BK324 := n3_; have HB := n4_; clear n0_ n1_ n2_ n3_ n4_; (try clear hb); (try clear hb2); (try clear hk); (try clear hi)))
     go_meet
     case rel => exact ⟨_, (true), (by first | rfl | (simp; done) | (simp [*]; done)), H', ⟨by first | omega | exact Nat.le_refl _⟩, ⟨by (with_reducible repeat (first | apply Kd.R_alloc | apply Kd.R_drewN | apply Kd.R_drew)); exact Kd.R_mono HO311.out (fun _ hk => hk.2)⟩, ⟨by (with_reducible repeat (first | apply Kd.R_alloc | apply Kd.R_drewN | apply Kd.R_drew)); exact Kd.R_mono HO320.out (fun _ hk => hk.2)⟩, ⟨bk BK315.out⟩, ⟨bk BK324.out⟩, ⟨bl2 HB.out GE315.out GE324.out⟩⟩
   ·replace c16 := Bool.eq_false_iff.mpr c16
    subst c16
    have H1 : (laws_FnExactTakeResponse.j0 k a0 t313 t314 true t307 t308 t309 t312 t316 t317 t318 t321) = some r := by rw [if_neg (show ¬ (false = true) by decide)] at H; exact H
    clear H
    have H := H1
    clear H1
    have H' := Aside0.mk H
    clear H
    have hnb26 := NB324_315.out
    have hnc26 := NB315_324.out
    have hcz27_0 : w11.cell? ⟨gb324, 0, none⟩ = some (.int .i64 0) := (blk_cell BK324.out 0).trans rfl
    have hcz27_1 : w11.cell? ⟨gb324, 1, none⟩ = some (.string (⟨#[]⟩ : ByteArray)) := (blk_cell BK324.out 1).trans rfl
    have hcz27_2 : w11.cell? ⟨gb324, 2, none⟩ = some (.slice none 0 0) := (blk_cell BK324.out 2).trans rfl
    have hcz27_3 : w11.cell? ⟨gb324, 3, none⟩ = some (.string (⟨#[]⟩ : ByteArray)) := (blk_cell BK324.out 3).trans rfl
    have hfz27_0 := blk_frozen BK324.out 0
    have hfz27_1 := blk_frozen BK324.out 1
    have hfz27_2 := blk_frozen BK324.out 2
    have hfz27_3 := blk_frozen BK324.out 3
    have hcz28_0 : w11.cell? ⟨gb315, 0, none⟩ = some (.int .i64 t307) := (blk_cell BK315.out 0).trans rfl
    have hcz28_1 : w11.cell? ⟨gb315, 1, none⟩ = some (.string t308) := (blk_cell BK315.out 1).trans rfl
    have hcz28_2 : w11.cell? ⟨gb315, 2, none⟩ = some (.slice Ao9 t309.length co9) := (blk_cell BK315.out 2).trans rfl
    have hcz28_3 : w11.cell? ⟨gb315, 3, none⟩ = some (.string t312) := (blk_cell BK315.out 3).trans rfl
    have hfz28_0 := blk_frozen BK315.out 0
    have hfz28_1 := blk_frozen BK315.out 1
    have hfz28_2 := blk_frozen BK315.out 2
    have hfz28_3 := blk_frozen BK315.out 3
    go_wp2_with (first | ((with_reducible refine gate_callee (f := 13) rfl ?_); refine goesL_ (some 31) rfl rfl Tryz.func13 (by kernel_rfl) rfl #[.agg #[.int .i64 t316, .string t317, .slice Ao14 t318.length co14, .string t321], .agg #[.int .i64 t307, .string t308, .slice Ao9 t309.length co9, .string t312]] rfl (by (try simp only [List.map_toArray, List.map_cons, List.map_nil]); first | done | rfl | (simp only [List.length_drop, List.length_take]; rfl)) ?_; (with_reducible refine (laws_eqResponse.calls k t316 t317 _ _ t318 t321 t307 t308 _ _ t309 t312 false _ ?side1 ?side2 ?side3 ?side4 A15.out).mono ?_); (case side1 => refine (Kd.R_reads' (e := 75) (base := w.heap.size) (ok := fun k_ => (True ∧ some k_ ≠ (.slice Ao9 t309.length co9 : Value).ownBlock)) (n := t318.length) (c := co14) ?_).2.2; exact (by (with_reducible repeat (first | apply Kd.R_alloc | apply Kd.R_drewN | apply Kd.R_drew)); exact (Kd.R_mono (Kd.R_far (p := ⟨gb324, 3, none⟩) (Kd.R_far (p := ⟨gb324, 2, none⟩) (Kd.R_far (p := ⟨gb324, 1, none⟩) (Kd.R_far (p := ⟨gb324, 0, none⟩) (Kd.R_types HO320.out BK324.out (by decide)) (fun _ hk => hk.2) (.int .i64 t316)) (fun _ hk => hk.2) (.string t317)) (fun _ hk => hk.2) (.slice Ao14 t318.length co14)) (fun _ hk => hk.2) (.string t321)) (fun _ h_ => h_.1)))); (case side2 => exact (Kd.R_reads' HO320.out).2.1); (case side3 => refine (Kd.R_reads' (e := 75) (base := w.heap.size) (ok := fun k_ => (True ∧ some k_ ≠ (.slice Ao14 t318.length co14 : Value).ownBlock)) (n := t309.length) (c := co9) ?_).2.2; exact (by (with_reducible repeat (first | apply Kd.R_alloc | apply Kd.R_drewN | apply Kd.R_drew)); exact (Kd.R_mono (Kd.R_far (p := ⟨gb324, 3, none⟩) (Kd.R_far (p := ⟨gb324, 2, none⟩) (Kd.R_far (p := ⟨gb324, 1, none⟩) (Kd.R_far (p := ⟨gb324, 0, none⟩) (Kd.R_types HO311.out BK324.out (by decide)) (fun _ hk => hk.2) (.int .i64 t316)) (fun _ hk => hk.2) (.string t317)) (fun _ hk => hk.2) (.slice Ao14 t318.length co14)) (fun _ hk => hk.2) (.string t321)) (fun _ h_ => h_.1)))); (case side4 => exact (Kd.R_reads' HO311.out).2.1); rintro e w29 ⟨rfl, hb⟩; refine ⟨_, rfl, ?_⟩; have n0_ := Aside0.mk (Kd.R_below (by (with_reducible repeat (first | apply Kd.R_alloc | apply Kd.R_drewN | apply Kd.R_drew)); exact (Kd.R_mono (Kd.R_far (p := ⟨gb324, 3, none⟩) (Kd.R_far (p := ⟨gb324, 2, none⟩) (Kd.R_far (p := ⟨gb324, 1, none⟩) (Kd.R_far (p := ⟨gb324, 0, none⟩) (Kd.R_types HO311.out BK324.out (by decide)) (fun _ hk => hk.2) (.int .i64 t316)) (fun _ hk => hk.2) (.string t317)) (fun _ hk => hk.2) (.slice Ao14 t318.length co14)) (fun _ hk => hk.2) (.string t321)) (fun _ h_ => h_.1))) hb); have n1_ := Aside0.mk (Kd.R_below (by (with_reducible repeat (first | apply Kd.R_alloc | apply Kd.R_drewN | apply Kd.R_drew)); exact (Kd.R_mono (Kd.R_far (p := ⟨gb324, 3, none⟩) (Kd.R_far (p := ⟨gb324, 2, none⟩) (Kd.R_far (p := ⟨gb324, 1, none⟩) (Kd.R_far (p := ⟨gb324, 0, none⟩) (Kd.R_types HO320.out BK324.out (by decide)) (fun _ hk => hk.2) (.int .i64 t316)) (fun _ hk => hk.2) (.string t317)) (fun _ hk => hk.2) (.slice Ao14 t318.length co14)) (fun _ hk => hk.2) (.string t321)) (fun _ h_ => h_.1))) hb); have n2_ := Aside0.mk (blk_below (g := gb315) (o := .cells #[.int .i64 t307, .string t308, .slice Ao9 t309.length co9, .string t312] 31 (0, 0)) (by (with_reducible repeat (first | refine blk_drewN ?_ _ | refine blk_drew ?_ | refine blk_alloc ?_ _)); refine blk_far ?_ NB315_324.out _; (with_reducible repeat (first | refine blk_drewN ?_ _ | refine blk_drew ?_ | refine blk_alloc ?_ _)); refine blk_far ?_ NB315_324.out _; (with_reducible repeat (first | refine blk_drewN ?_ _ | refine blk_drew ?_ | refine blk_alloc ?_ _)); refine blk_far ?_ NB315_324.out _; (with_reducible repeat (first | refine blk_drewN ?_ _ | refine blk_drew ?_ | refine blk_alloc ?_ _)); refine blk_far ?_ NB315_324.out _; exact bk BK315.out) hb); have n3_ := Aside0.mk (blk_below (g := gb324) (o := .cells #[.int .i64 t316, .string t317, .slice Ao14 t318.length co14, .string t321] 31 (0, 0)) (by (with_reducible repeat (first | refine blk_drewN ?_ _ | refine blk_drew ?_ | refine blk_alloc ?_ _)); refine blk_put (cs := #[.int .i64 t316, .string t317, .slice Ao14 t318.length co14, .string (⟨#[]⟩ : ByteArray)]) ?_ 3 _ rfl; (with_reducible repeat (first | refine blk_drewN ?_ _ | refine blk_drew ?_ | refine blk_alloc ?_ _)); refine blk_put (cs := #[.int .i64 t316, .string t317, .slice none 0 0, .string (⟨#[]⟩ : ByteArray)]) ?_ 2 _ rfl; (with_reducible repeat (first | refine blk_drewN ?_ _ | refine blk_drew ?_ | refine blk_alloc ?_ _)); refine blk_put (cs := #[.int .i64 t316, .string (⟨#[]⟩ : ByteArray), .slice none 0 0, .string (⟨#[]⟩ : ByteArray)]) ?_ 1 _ rfl; (with_reducible repeat (first | refine blk_drewN ?_ _ | refine blk_drew ?_ | refine blk_alloc ?_ _)); refine blk_put (cs := #[.int .i64 0, .string (⟨#[]⟩ : ByteArray), .slice none 0 0, .string (⟨#[]⟩ : ByteArray)]) ?_ 0 _ rfl; exact bk BK324.out) hb); have n4_ := Aside0.mk (below_step (bl2 HB.out GE315.out GE324.out) hb); clear HO311; clear HO320; clear BK315; clear BK324; clear HB; have HO311 := n0_; have HO320 := n1_; have BK315 := n2_; have BK324 := n3_; have HB := n4_; clear n0_ n1_ n2_ n3_ n4_; (try clear hb); (try clear hb2); (try clear hk); (try clear hi)))
    go_meet
    case rel => exact ⟨_, (true), (by first | rfl | (simp; done) | (simp [*]; done)), H', ⟨by first | omega | exact Nat.le_refl _⟩, ⟨by (with_reducible repeat (first | apply Kd.R_alloc | apply Kd.R_drewN | apply Kd.R_drew)); exact Kd.R_mono HO311.out (fun _ hk => hk.2)⟩, ⟨by (with_reducible repeat (first | apply Kd.R_alloc | apply Kd.R_drewN | apply Kd.R_drew)); exact Kd.R_mono HO320.out (fun _ hk => hk.2)⟩, ⟨bk BK315.out⟩, ⟨bk BK324.out⟩, ⟨bl2 HB.out GE315.out GE324.out⟩⟩
  case rest =>
   clear HC5
   try clear c1
   try clear c2
   try clear c2b0
   try clear c2b1
   try clear p2
   try clear c4
   try clear c11
   try clear c12
   try clear c13
   try clear c16
   try clear c17
   try clear c17b0
   try clear c17b1
   try clear c18
   try clear c22
   try clear c26
   try clear hcz13_0
   try clear hcz13_1
   try clear hcz13_2
   try clear hcz13_3
   try clear hcz19_0
   try clear hcz19_1
   try clear hcz19_2
   try clear hcz19_3
   try clear hcz20_0
   try clear hcz20_1
   try clear hcz20_2
   try clear hcz20_3
   try clear hcz23_0
   try clear hcz23_1
   try clear hcz23_2
   try clear hcz23_3
   try clear hcz24_0
   try clear hcz24_1
   try clear hcz24_2
   try clear hcz24_3
   try clear hcz27_0
   try clear hcz27_1
   try clear hcz27_2
   try clear hcz27_3
   try clear hcz28_0
   try clear hcz28_1
   try clear hcz28_2
   try clear hcz28_3
   try clear hcz8_0
   try clear hcz8_1
   try clear hcz8_2
   try clear hcz8_3
   try clear hfz13_0
   try clear hfz13_1
   try clear hfz13_2
   try clear hfz13_3
   try clear hfz19_0
   try clear hfz19_1
   try clear hfz19_2
   try clear hfz19_3
   try clear hfz20_0
   try clear hfz20_1
   try clear hfz20_2
   try clear hfz20_3
   try clear hfz23_0
   try clear hfz23_1
   try clear hfz23_2
   try clear hfz23_3
   try clear hfz24_0
   try clear hfz24_1
   try clear hfz24_2
   try clear hfz24_3
   try clear hfz27_0
   try clear hfz27_1
   try clear hfz27_2
   try clear hfz27_3
   try clear hfz28_0
   try clear hfz28_1
   try clear hfz28_2
   try clear hfz28_3
   try clear hfz8_0
   try clear hfz8_1
   try clear hfz8_2
   try clear hfz8_3
   obtain ⟨kq, x42_4, rfl, HA, HJ4, HO_316002, HO_325002, BK315, BK324, HB⟩ := hcut
   cases kq with
   | zero => exact absurd HA.out (by simp [laws_FnExactTakeResponse.j0])
   | succ kj4 =>
    have H := HA.out
    clear HA
    simp only [laws_FnExactTakeResponse.j0] at H
    by_cases c30 : x42_4 = true
    ·subst c30
     have H1 : (none) = some r := by rw [if_pos rfl] at H; exact H
     clear H
     have H := H1
     clear H1
     exact absurd H (by simp)
    ·replace c30 := Bool.eq_false_iff.mpr c30
     subst c30
     have H1 : ((laws_markResponse.f kj4 t316 t317 t318 t321 1).bind fun bt326 => ((laws_heldResponse.f kj4 t316 t317 bt326.2 t321 1).bind fun t328 => (if t328 < 0 then (none) else (if t328 = bt326.1 then ((impl_TakeResponse.f kj4 a0).bind fun bt329 => ((laws_eqResponse.f kj4 bt329.1 bt329.2.1 bt329.2.2.1 bt329.2.2.2.1 t307 t308 t309 t312).bind fun t338 => (if t338 = true then (if bt329.2.2.2.2.1 = t313 then (laws_FnExactTakeResponse.j1 kj4 bt326.1 (bt329.2.2.2.2.2 != t314) t316 t317 bt326.2 t321) else (laws_FnExactTakeResponse.j1 kj4 bt326.1 true t316 t317 bt326.2 t321)) else (laws_FnExactTakeResponse.j1 kj4 bt326.1 true t316 t317 bt326.2 t321)))) else (none))))) = some r := by rw [if_neg (show ¬ (false = true) by decide)] at H; exact H
     clear H
     have H := H1
     clear H1
     replace H := Option.bind_eq_some_iff.mp H
     obtain ⟨⟨t326, t327⟩, A310, H⟩ := H
     try dsimp only at H
     have A31 := Aside0.mk A310
     clear A310
     replace H := Option.bind_eq_some_iff.mp H
     obtain ⟨t328, A320, H⟩ := H
     try dsimp only at H
     have A32 := Aside0.mk A320
     clear A320
     by_cases c33 : t328 < 0
     ·rw [if_pos c33] at H
      exact absurd H (by simp)
     ·rw [if_neg c33] at H
      have c33b0 : decide (t328 < 0) = false := decide_eq_false c33
      clear c33
      by_cases c34 : t328 = t326
      ·rw [if_pos c34] at H
       have c34b0 : (t328 == t326) = true := beq_iff_eq.mpr c34
       have c34b1 : (t328 != t326) = false := bne_eq_false_iff_eq.mpr c34
       clear c34
       replace H := Option.bind_eq_some_iff.mp H
       obtain ⟨⟨t329, t330, t331, t334, t335, t336⟩, A350, H⟩ := H
       try dsimp only at H
       have A35 := Aside0.mk A350
       clear A350
       have HC36 := Aside0.mk H
       clear H
       have hnb37 := NB324_315.out
       have hnc37 := NB315_324.out
       have hcz38_0 : wc.cell? ⟨gb324, 0, none⟩ = some (.int .i64 t316) := (blk_cell BK324.out 0).trans rfl
       have hcz38_1 : wc.cell? ⟨gb324, 1, none⟩ = some (.string t317) := (blk_cell BK324.out 1).trans rfl
       have hcz38_2 : wc.cell? ⟨gb324, 2, none⟩ = some (.slice Ao14 t318.length co14) := (blk_cell BK324.out 2).trans rfl
       have hcz38_3 : wc.cell? ⟨gb324, 3, none⟩ = some (.string t321) := (blk_cell BK324.out 3).trans rfl
       have hfz38_0 := blk_frozen BK324.out 0
       have hfz38_1 := blk_frozen BK324.out 1
       have hfz38_2 := blk_frozen BK324.out 2
       have hfz38_3 := blk_frozen BK324.out 3
       go_upto_region 16 with (first | ((with_reducible refine gate_callee (f := 14) rfl ?_); refine goesL_ (some 45) rfl rfl Tryz.func14 (by kernel_rfl) rfl #[.agg #[.int .i64 t316, .string t317, .slice Ao14 t318.length co14, .string t321], .int .i64 1] rfl (by (try simp only [List.map_toArray, List.map_cons, List.map_nil]); first | done | rfl | (simp only [List.length_drop, List.length_take]; rfl)) ?_; (with_reducible refine (laws_markResponse.calls kj4 t316 t317 (fun k_ => some k_ = (.slice Ao14 t318.length co14 : Value).ownBlock) (.slice Ao14 t318.length co14) t318 t321 1 t326 t327 w _ ?side1 ?side2 A31.out).mono ?_); (case side1 => exact bl2 HB.out GE315.out GE324.out); (case side2 => exact Kd.R_tight rfl HO_325002.out); rintro e w39 ⟨rfl, hy0, hb, hkp⟩; refine ⟨_, rfl, ?_⟩; have n0_ := Aside0.mk (Kd.R_mono (ok' := fun k_ => some k_ ≠ (.slice Ao14 t318.length co14 : Value).ownBlock) (Kd.R_keptB (HO_316002.out) hkp (fun k_ hk_ hs_ => (hk_) hs_)) (fun k_ hk_ => hk_.1)); have n1_ := Aside0.mk (Kd.R_reok rfl hy0 (fun k_ e_ => HO_325002.out.1 k_ e_)); have n2_ := Aside0.mk (blk_kept (bk BK315.out) hkp (fun hs_ => (fun e_ => (Kd.R_ne HO_325002.out BK315.out (by decide)) e_) hs_)); have n3_ := Aside0.mk (blk_kept (bk BK324.out) hkp (fun hs_ => (fun e_ => (Kd.R_ne HO_325002.out BK324.out (by decide)) e_) hs_)); have n4_ := Aside0.mk (hb); clear HO_316002; clear HO_325002; clear BK315; clear BK324; clear HB; have HO_316002 := n0_; have HO_325002 := n1_; have BK315 := n2_; have BK324 := n3_; have HB := n4_; clear n0_ n1_ n2_ n3_ n4_; (try clear hb); (try clear hkp); (try clear hy0); have hcz40_0 : w39.cell? ⟨gb324, 0, none⟩ = some (.int .i64 t316) := (blk_cell BK324.out 0).trans rfl; have hcz40_1 : w39.cell? ⟨gb324, 1, none⟩ = some (.string t317) := (blk_cell BK324.out 1).trans rfl; have hcz40_2 : w39.cell? ⟨gb324, 2, none⟩ = some (.slice Ao14 t318.length co14) := (blk_cell BK324.out 2).trans rfl; have hcz40_3 : w39.cell? ⟨gb324, 3, none⟩ = some (.string t321) := (blk_cell BK324.out 3).trans rfl; have hfz40_0 := blk_frozen BK324.out 0; have hfz40_1 := blk_frozen BK324.out 1; have hfz40_2 := blk_frozen BK324.out 2; have hfz40_3 := blk_frozen BK324.out 3) | ((with_reducible refine gate_callee (f := 15) rfl ?_); refine goesL_ (some 48) rfl rfl Tryz.func15 (by kernel_rfl) rfl #[.agg #[.int .i64 t316, .string t317, .slice Ao14 t327.length co14, .string t321], .int .i64 1] rfl (by (try simp only [List.map_toArray, List.map_cons, List.map_nil]); first | done | (rw [show t327.length = t318.length from (Kd.R_reads' HO_325002.out).1.symm] <;> rfl) | rfl | (simp only [List.length_drop, List.length_take]; rfl)) ?_; (with_reducible refine (laws_heldResponse.calls kj4 t316 t317 _ _ t327 t321 1 t328 _ ?side1 ?side2 A32.out).mono ?_); (case side1 => exact kc (Kd.R_reads' HO_325002.out).2.2); (case side2 => rw [show t327.length = t318.length from (Kd.R_reads' HO_325002.out).1.symm]; exact (Kd.R_reads' HO_325002.out).2.1); rintro e w41 ⟨rfl, hb⟩; refine ⟨_, rfl, ?_⟩; have n0_ := Aside0.mk (Kd.R_below (kr HO_316002.out) hb); have n1_ := Aside0.mk (Kd.R_below (kr HO_325002.out) hb); have n2_ := Aside0.mk (blk_below (g := gb315) (o := .cells #[.int .i64 t307, .string t308, .slice Ao9 t309.length co9, .string t312] 31 (0, 0)) (bk BK315.out) hb); have n3_ := Aside0.mk (blk_below (g := gb324) (o := .cells #[.int .i64 t316, .string t317, .slice Ao14 t318.length co14, .string t321] 31 (0, 0)) (bk BK324.out) hb); have n4_ := Aside0.mk (below_step (bl2 HB.out GE315.out GE324.out) hb); clear HO_316002; clear HO_325002; clear BK315; clear BK324; clear HB; have HO_316002 := n0_; have HO_325002 := n1_; have BK315 := n2_; have BK324 := n3_; have HB := n4_; clear n0_ n1_ n2_ n3_ n4_; (try clear hb); (try clear hb2); (try clear hk); (try clear hi)) | ((with_reducible refine gate_callee (f := 12) rfl ?_); refine goesL_ (some 56) rfl rfl Tryz.func12 (by kernel_rfl) rfl #[.string a0] rfl (by (try simp only [List.map_toArray, List.map_cons, List.map_nil]); first | done | rfl | (simp only [List.length_drop, List.length_take]; rfl)) ?_; (with_reducible refine (impl_TakeResponse.calls kj4 a0 t329 t330 t331 t334 t335 t336 _ A35.out (globg HT.out (bl2 HB.out GE315.out GE324.out))).mono ?_); rintro e w42 ⟨v332, rfl, ho0, hb⟩; refine ⟨_, rfl, ?_⟩; have n0_ := Aside0.mk (Kd.R_elder' (kr HO_316002.out) (Kd.R_base ho0) hb); have n1_ := Aside0.mk (Kd.R_elder' (kr HO_325002.out) (Kd.R_base ho0) hb); have n2_ := Aside0.mk (Kd.R_lower (Kd.R_new' (Kd.R_new' ho0 (Kd.R_lt (kr HO_316002.out))) (Kd.R_lt (kr HO_325002.out))) (below_size (bl2 HB.out GE315.out GE324.out))); have n3_ := Aside0.mk (blk_below (g := gb315) (o := .cells #[.int .i64 t307, .string t308, .slice Ao9 t309.length co9, .string t312] 31 (0, 0)) (bk BK315.out) hb); have n4_ := Aside0.mk (blk_below (g := gb324) (o := .cells #[.int .i64 t316, .string t317, .slice Ao14 t318.length co14, .string t321] 31 (0, 0)) (bk BK324.out) hb); have n5_ := Aside0.mk (below_step (bl2 HB.out GE315.out GE324.out) hb); clear HO_316002; clear HO_325002; clear BK315; clear BK324; clear HB; have HO_316002 := n0_; have HO_325002 := n1_; have HO333 := n2_; have BK315 := n3_; have BK324 := n4_; have HB := n5_; clear n0_ n1_ n2_ n3_ n4_ n5_; (try clear hb); (try clear hb2); (try clear hk); (try clear hi); (try clear ho0)) | ((with_reducible refine gate_dst (N := 11) rfl ?_); refine box_event ?hg (N := 11) ?hd (cs := #[.int .i64 0, .string (⟨#[]⟩ : ByteArray), .slice none 0 0, .string (⟨#[]⟩ : ByteArray)]) (t := 31) ?hr ?_; (case hd => rfl); (case hg => rfl); (case hr => first | (go_simp; done) | (go_simp; rfl)); intro gb337 hg w43 hbox hb; have n0_ := Aside0.mk (Kd.R_below (kr HO_316002.out) hb); have n1_ := Aside0.mk (Kd.R_below (kr HO_325002.out) hb); have n2_ := Aside0.mk (Kd.R_below (kr HO333.out) hb); have n3_ := Aside0.mk (blk_below (g := gb315) (o := .cells #[.int .i64 t307, .string t308, .slice Ao9 t309.length co9, .string t312] 31 (0, 0)) (bk BK315.out) hb); have n4_ := Aside0.mk (blk_below (g := gb324) (o := .cells #[.int .i64 t316, .string t317, .slice Ao14 t318.length co14, .string t321] 31 (0, 0)) (bk BK324.out) hb); have n5_ := Aside0.mk (below_step (bl2 HB.out GE315.out GE324.out) hb); have n6_ := Aside0.mk (hbox); have n7_ := Aside0.mk ((by rw [hg]; exact (below_size (bl2 HB.out GE315.out GE324.out)) : w.heap.size ≤ gb337)); have n8_ := Aside0.mk ((by rw [hg]; exact (below_size (bl2 HB.out GE315.out GE324.out)) : w.heap.size ≤ gb337)); have n9_ := Aside0.mk ((by rw [hg]; exact Nat.ne_of_lt (blk_lt (g := gb315) (o := .cells #[.int .i64 t307, .string t308, .slice Ao9 t309.length co9, .string t312] 31 (0, 0)) (bk BK315.out)) : gb315 ≠ gb337)); have n10_ := Aside0.mk ((by rw [hg]; exact Nat.ne_of_gt (blk_lt (g := gb315) (o := .cells #[.int .i64 t307, .string t308, .slice Ao9 t309.length co9, .string t312] 31 (0, 0)) (bk BK315.out)) : gb337 ≠ gb315)); have n11_ := Aside0.mk ((by rw [hg]; exact Nat.ne_of_lt (blk_lt (g := gb324) (o := .cells #[.int .i64 t316, .string t317, .slice Ao14 t318.length co14, .string t321] 31 (0, 0)) (bk BK324.out)) : gb324 ≠ gb337)); have n12_ := Aside0.mk ((by rw [hg]; exact Nat.ne_of_gt (blk_lt (g := gb324) (o := .cells #[.int .i64 t316, .string t317, .slice Ao14 t318.length co14, .string t321] 31 (0, 0)) (bk BK324.out)) : gb337 ≠ gb324)); clear HO_316002; clear HO_325002; clear HO333; clear BK315; clear BK324; clear HB; have HO_316002 := n0_; have HO_325002 := n1_; have HO333 := n2_; have BK315 := n3_; have BK324 := n4_; have HB := n5_; have BK337 := n6_; have GW337 := n7_; have GE337 := n8_; have NB315_337 := n9_; have NB337_315 := n10_; have NB324_337 := n11_; have NB337_324 := n12_; clear n0_ n1_ n2_ n3_ n4_ n5_ n6_ n7_ n8_ n9_ n10_ n11_ n12_; clear hb hbox hg; have hnb44 := NB337_315.out; have hnc44 := NB315_337.out; have hnb45 := NB337_324.out; have hnc45 := NB324_337.out; have hcz46_0 : w43.cell? ⟨gb337, 0, none⟩ = some (.int .i64 0) := (blk_cell BK337.out 0).trans rfl; have hcz46_1 : w43.cell? ⟨gb337, 1, none⟩ = some (.string (⟨#[]⟩ : ByteArray)) := (blk_cell BK337.out 1).trans rfl; have hcz46_2 : w43.cell? ⟨gb337, 2, none⟩ = some (.slice none 0 0) := (blk_cell BK337.out 2).trans rfl; have hcz46_3 : w43.cell? ⟨gb337, 3, none⟩ = some (.string (⟨#[]⟩ : ByteArray)) := (blk_cell BK337.out 3).trans rfl; have hfz46_0 := blk_frozen BK337.out 0; have hfz46_1 := blk_frozen BK337.out 1; have hfz46_2 := blk_frozen BK337.out 2; have hfz46_3 := blk_frozen BK337.out 3; obtain ⟨Ao47, co47, eo47⟩ := Kd.R_slice HO333.out; subst eo47))
       (try simp only [Act.put, List.setIfInBounds_toArray, List.set_cons_zero, List.set_cons_succ])
       go_cut [73] (fun v73 wc => ∃ (kq : Nat) (x73_35 : Bool), v73 = .bool x73_35 ∧ Aside0 (laws_FnExactTakeResponse.j1 kq t326 x73_35 t316 t317 t327 t321 = some r) ∧ Aside0 (kq ≤ kj4) ∧ Aside0 (Kd.R k75 75 wc w.heap.size (fun k_ => some k_ ≠ ((.slice Ao14 t318.length co14) : Value).ownBlock ∧ some k_ ≠ ((.slice Ao47 t331.length co47) : Value).ownBlock) (.slice Ao9 t309.length co9) t309) ∧ Aside0 (Kd.R k75 75 wc w.heap.size (fun k_ => some k_ ≠ ((.slice Ao9 t309.length co9) : Value).ownBlock ∧ some k_ ≠ ((.slice Ao47 t331.length co47) : Value).ownBlock) (.slice Ao14 t318.length co14) t327) ∧ Aside0 (Kd.R k75 75 wc w.heap.size (fun k_ => some k_ ≠ ((.slice Ao9 t309.length co9) : Value).ownBlock ∧ some k_ ≠ ((.slice Ao14 t318.length co14) : Value).ownBlock) (.slice Ao47 t331.length co47) t331) ∧ Aside0 (wc.heap[gb315]? = some (.cells #[.int .i64 t307, .string t308, (.slice Ao9 t309.length co9), .string t312] 31 (0, 0))) ∧ Aside0 (wc.heap[gb324]? = some (.cells #[.int .i64 t316, .string t317, (.slice Ao14 t318.length co14), .string t321] 31 (0, 0))) ∧ Aside0 (wc.heap[gb337]? = some (.cells #[.int .i64 t329, .string t330, (.slice Ao47 t331.length co47), .string t334] 31 (0, 0))) ∧ Aside0 (Below w.heap.size w wc))
       case first =>
        have H := HC36.out
        clear HC36
        replace H := Option.bind_eq_some_iff.mp H
        obtain ⟨t338, A480, H⟩ := H
        try dsimp only at H
        have A48 := Aside0.mk A480
        clear A480
        by_cases c49 : t338 = true
        ·subst c49
         have H1 : (if t335 = t313 then (laws_FnExactTakeResponse.j1 kj4 t326 (t336 != t314) t316 t317 t327 t321) else (laws_FnExactTakeResponse.j1 kj4 t326 true t316 t317 t327 t321)) = some r := by rw [if_pos rfl] at H; exact H
         clear H
         have H := H1
         clear H1
         by_cases c50 : t335 = t313
         ·rw [if_pos c50] at H
          have c50b0 : (t335 == t313) = true := beq_iff_eq.mpr c50
          have c50b1 : (t335 != t313) = false := bne_eq_false_iff_eq.mpr c50
          clear c50
          (first | rw [c50b0] | (simp only [i64_w, i32_w]; rw [c50b0]) | skip)
          have H' := Aside0.mk H
          clear H
          have hnb51 := NB337_315.out
          have hnc51 := NB315_337.out
          have hnb52 := NB337_324.out
          have hnc52 := NB324_337.out
          have hcz53_0 : w43.cell? ⟨gb337, 0, none⟩ = some (.int .i64 0) := (blk_cell BK337.out 0).trans rfl
          have hcz53_1 : w43.cell? ⟨gb337, 1, none⟩ = some (.string (⟨#[]⟩ : ByteArray)) := (blk_cell BK337.out 1).trans rfl
          have hcz53_2 : w43.cell? ⟨gb337, 2, none⟩ = some (.slice none 0 0) := (blk_cell BK337.out 2).trans rfl
          have hcz53_3 : w43.cell? ⟨gb337, 3, none⟩ = some (.string (⟨#[]⟩ : ByteArray)) := (blk_cell BK337.out 3).trans rfl
          have hfz53_0 := blk_frozen BK337.out 0
          have hfz53_1 := blk_frozen BK337.out 1
          have hfz53_2 := blk_frozen BK337.out 2
          have hfz53_3 := blk_frozen BK337.out 3
          have hnb54 := NB315_324.out
          have hnc54 := NB324_315.out
          have hcz55_0 : w43.cell? ⟨gb315, 0, none⟩ = some (.int .i64 t307) := (blk_cell BK315.out 0).trans rfl
          have hcz55_1 : w43.cell? ⟨gb315, 1, none⟩ = some (.string t308) := (blk_cell BK315.out 1).trans rfl
          have hcz55_2 : w43.cell? ⟨gb315, 2, none⟩ = some (.slice Ao9 t309.length co9) := (blk_cell BK315.out 2).trans rfl
          have hcz55_3 : w43.cell? ⟨gb315, 3, none⟩ = some (.string t312) := (blk_cell BK315.out 3).trans rfl
          have hfz55_0 := blk_frozen BK315.out 0
          have hfz55_1 := blk_frozen BK315.out 1
          have hfz55_2 := blk_frozen BK315.out 2
          have hfz55_3 := blk_frozen BK315.out 3
          go_wp2_with (first | ((with_reducible refine gate_callee (f := 13) rfl ?_); refine goesL_ (some 62) rfl rfl Tryz.func13 (by kernel_rfl) rfl #[.agg #[.int .i64 t329, .string t330, .slice Ao47 t331.length co47, .string t334], .agg #[.int .i64 t307, .string t308, .slice Ao9 t309.length co9, .string t312]] rfl (by (try simp only [List.map_toArray, List.map_cons, List.map_nil]); first | done | rfl | (simp only [List.length_drop, List.length_take]; rfl)) ?_; (with_reducible refine (laws_eqResponse.calls kj4 t329 t330 _ _ t331 t334 t307 t308 _ _ t309 t312 true _ ?side1 ?side2 ?side3 ?side4 A48.out).mono ?_); (case side1 => refine (Kd.R_reads' (e := 75) (base := w.heap.size) (ok := fun k_ => ((True ∧ some k_ ≠ (.slice Ao9 t309.length co9 : Value).ownBlock) ∧ some k_ ≠ (.slice Ao14 t318.length co14 : Value).ownBlock)) (n := t331.length) (c := co47) ?_).2.2; exact (by (with_reducible repeat (first | apply Kd.R_alloc | apply Kd.R_drewN | apply Kd.R_drew)); exact (Kd.R_mono (Kd.R_far (p := ⟨gb337, 3, none⟩) (Kd.R_far (p := ⟨gb337, 2, none⟩) (Kd.R_far (p := ⟨gb337, 1, none⟩) (Kd.R_far (p := ⟨gb337, 0, none⟩) (Kd.R_types HO333.out BK337.out (by decide)) (fun _ hk => hk.2) (.int .i64 t329)) (fun _ hk => hk.2) (.string t330)) (fun _ hk => hk.2) (.slice Ao47 t331.length co47)) (fun _ hk => hk.2) (.string t334)) (fun _ h_ => h_.1)))); (case side2 => exact (Kd.R_reads' HO333.out).2.1); (case side3 => refine (Kd.R_reads' (e := 75) (base := w.heap.size) (ok := fun k_ => (some k_ ≠ (.slice Ao14 t318.length co14 : Value).ownBlock ∧ some k_ ≠ (.slice Ao47 t331.length co47 : Value).ownBlock)) (n := t309.length) (c := co9) ?_).2.2; exact (by (with_reducible repeat (first | apply Kd.R_alloc | apply Kd.R_drewN | apply Kd.R_drew)); exact (Kd.R_mono (Kd.R_far (p := ⟨gb337, 3, none⟩) (Kd.R_far (p := ⟨gb337, 2, none⟩) (Kd.R_far (p := ⟨gb337, 1, none⟩) (Kd.R_far (p := ⟨gb337, 0, none⟩) (Kd.R_types HO_316002.out BK337.out (by decide)) (fun _ hk => hk.2) (.int .i64 t329)) (fun _ hk => hk.2) (.string t330)) (fun _ hk => hk.2) (.slice Ao47 t331.length co47)) (fun _ hk => hk.2) (.string t334)) (fun _ h_ => h_.1)))); (case side4 => exact (Kd.R_reads' HO_316002.out).2.1); rintro e w56 ⟨rfl, hb⟩; refine ⟨_, rfl, ?_⟩; have n0_ := Aside0.mk (Kd.R_below (by (with_reducible repeat (first | apply Kd.R_alloc | apply Kd.R_drewN | apply Kd.R_drew)); exact (Kd.R_mono (Kd.R_far (p := ⟨gb337, 3, none⟩) (Kd.R_far (p := ⟨gb337, 2, none⟩) (Kd.R_far (p := ⟨gb337, 1, none⟩) (Kd.R_far (p := ⟨gb337, 0, none⟩) (Kd.R_types HO_316002.out BK337.out (by decide)) (fun _ hk => hk.2) (.int .i64 t329)) (fun _ hk => hk.2) (.string t330)) (fun _ hk => hk.2) (.slice Ao47 t331.length co47)) (fun _ hk => hk.2) (.string t334)) (fun _ h_ => h_.1))) hb); have n1_ := Aside0.mk (Kd.R_below (by (with_reducible repeat (first | apply Kd.R_alloc | apply Kd.R_drewN | apply Kd.R_drew)); exact (Kd.R_mono (Kd.R_far (p := ⟨gb337, 3, none⟩) (Kd.R_far (p := ⟨gb337, 2, none⟩) (Kd.R_far (p := ⟨gb337, 1, none⟩) (Kd.R_far (p := ⟨gb337, 0, none⟩) (Kd.R_types HO_325002.out BK337.out (by decide)) (fun _ hk => hk.2) (.int .i64 t329)) (fun _ hk => hk.2) (.string t330)) (fun _ hk => hk.2) (.slice Ao47 t331.length co47)) (fun _ hk => hk.2) (.string t334)) (fun _ h_ => h_.1))) hb); have n2_ := Aside0.mk (Kd.R_below (by (with_reducible repeat (first | apply Kd.R_alloc | apply Kd.R_drewN | apply Kd.R_drew)); exact (Kd.R_mono (Kd.R_far (p := ⟨gb337, 3, none⟩) (Kd.R_far (p := ⟨gb337, 2, none⟩) (Kd.R_far (p := ⟨gb337, 1, none⟩) (Kd.R_far (p := ⟨gb337, 0, none⟩) (Kd.R_types HO333.out BK337.out (by decide)) (fun _ hk => hk.2) (.int .i64 t329)) (fun _ hk => hk.2) (.string t330)) (fun _ hk => hk.2) (.slice Ao47 t331.length co47)) (fun _ hk => hk.2) (.string t334)) (fun _ h_ => h_.1))) hb); have n3_ := Aside0.mk (blk_below (g := gb315) (o := .cells #[.int .i64 t307, .string t308, .slice Ao9 t309.length co9, .string t312] 31 (0, 0)) (by (with_reducible repeat (first | refine blk_drewN ?_ _ | refine blk_drew ?_ | refine blk_alloc ?_ _)); refine blk_far ?_ NB315_337.out _; (with_reducible repeat (first | refine blk_drewN ?_ _ | refine blk_drew ?_ | refine blk_alloc ?_ _)); refine blk_far ?_ NB315_337.out _; (with_reducible repeat (first | refine blk_drewN ?_ _ | refine blk_drew ?_ | refine blk_alloc ?_ _)); refine blk_far ?_ NB315_337.out _; (with_reducible repeat (first | refine blk_drewN ?_ _ | refine blk_drew ?_ | refine blk_alloc ?_ _)); refine blk_far ?_ NB315_337.out _; exact bk BK315.out) hb); have n4_ := Aside0.mk (blk_below (g := gb324) (o := .cells #[.int .i64 t316, .string t317, .slice Ao14 t318.length co14, .string t321] 31 (0, 0)) (by (with_reducible repeat (first | refine blk_drewN ?_ _ | refine blk_drew ?_ | refine blk_alloc ?_ _)); refine blk_far ?_ NB324_337.out _; (with_reducible repeat (first | refine blk_drewN ?_ _ | refine blk_drew ?_ | refine blk_alloc ?_ _)); refine blk_far ?_ NB324_337.out _; (with_reducible repeat (first | refine blk_drewN ?_ _ | refine blk_drew ?_ | refine blk_alloc ?_ _)); refine blk_far ?_ NB324_337.out _; (with_reducible repeat (first | refine blk_drewN ?_ _ | refine blk_drew ?_ | refine blk_alloc ?_ _)); refine blk_far ?_ NB324_337.out _; exact bk BK324.out) hb); have n5_ := Aside0.mk (blk_below (g := gb337) (o := .cells #[.int .i64 t329, .string t330, .slice Ao47 t331.length co47, .string t334] 31 (0, 0)) (by (with_reducible repeat (first | refine blk_drewN ?_ _ | refine blk_drew ?_ | refine blk_alloc ?_ _)); refine blk_put (cs := #[.int .i64 t329, .string t330, .slice Ao47 t331.length co47, .string (⟨#[]⟩ : ByteArray)]) ?_ 3 _ rfl; (with_reducible repeat (first | refine blk_drewN ?_ _ | refine blk_drew ?_ | refine blk_alloc ?_ _)); refine blk_put (cs := #[.int .i64 t329, .string t330, .slice none 0 0, .string (⟨#[]⟩ : ByteArray)]) ?_ 2 _ rfl; (with_reducible repeat (first | refine blk_drewN ?_ _ | refine blk_drew ?_ | refine blk_alloc ?_ _)); refine blk_put (cs := #[.int .i64 t329, .string (⟨#[]⟩ : ByteArray), .slice none 0 0, .string (⟨#[]⟩ : ByteArray)]) ?_ 1 _ rfl; (with_reducible repeat (first | refine blk_drewN ?_ _ | refine blk_drew ?_ | refine blk_alloc ?_ _)); refine blk_put (cs := #[.int .i64 0, .string (⟨#[]⟩ : ByteArray), .slice none 0 0, .string (⟨#[]⟩ : ByteArray)]) ?_ 0 _ rfl; exact bk BK337.out) hb); have n6_ := Aside0.mk (below_step (bl3 HB.out GE315.out GE324.out GE337.out) hb); clear HO_316002; clear HO_325002; clear HO333; clear BK315; clear BK324; clear BK337; clear HB; have HO_316002 := n0_; have HO_325002 := n1_; have HO333 := n2_; have BK315 := n3_; have BK324 := n4_; have BK337 := n5_; have HB := n6_; clear n0_ n1_ n2_ n3_ n4_ n5_ n6_; (try clear hb); (try clear hb2); (try clear hk); (try clear hi)))
          go_meet
          case rel => exact ⟨_, ((t336 != t314)), (by first | rfl | (simp; done) | (simp [*]; done)), H', ⟨by have := HJ4.out; first | omega | exact Nat.le_refl _⟩, ⟨kr HO_316002.out⟩, ⟨kr HO_325002.out⟩, ⟨by (with_reducible repeat (first | apply Kd.R_alloc | apply Kd.R_drewN | apply Kd.R_drew)); exact Kd.R_mono HO333.out (fun _ hk => ⟨hk.1.2, hk.2⟩)⟩, ⟨bk BK315.out⟩, ⟨bk BK324.out⟩, ⟨bk BK337.out⟩, ⟨bl3 HB.out GE315.out GE324.out GE337.out⟩⟩
         ·rw [if_neg c50] at H
          have c50b0 : (t335 == t313) = false := beq_eq_false_iff_ne.mpr c50
          have c50b1 : (t335 != t313) = true := bne_iff_ne.mpr c50
          (first | rw [c50b0] | (simp only [i64_w, i32_w]; rw [c50b0]) | skip)
          have H' := Aside0.mk H
          clear H
          have hnb57 := NB337_315.out
          have hnc57 := NB315_337.out
          have hnb58 := NB337_324.out
          have hnc58 := NB324_337.out
          have hcz59_0 : w43.cell? ⟨gb337, 0, none⟩ = some (.int .i64 0) := (blk_cell BK337.out 0).trans rfl
          have hcz59_1 : w43.cell? ⟨gb337, 1, none⟩ = some (.string (⟨#[]⟩ : ByteArray)) := (blk_cell BK337.out 1).trans rfl
          have hcz59_2 : w43.cell? ⟨gb337, 2, none⟩ = some (.slice none 0 0) := (blk_cell BK337.out 2).trans rfl
          have hcz59_3 : w43.cell? ⟨gb337, 3, none⟩ = some (.string (⟨#[]⟩ : ByteArray)) := (blk_cell BK337.out 3).trans rfl
          have hfz59_0 := blk_frozen BK337.out 0
          have hfz59_1 := blk_frozen BK337.out 1
          have hfz59_2 := blk_frozen BK337.out 2
          have hfz59_3 := blk_frozen BK337.out 3
          have hnb60 := NB315_324.out
          have hnc60 := NB324_315.out
          have hcz61_0 : w43.cell? ⟨gb315, 0, none⟩ = some (.int .i64 t307) := (blk_cell BK315.out 0).trans rfl
          have hcz61_1 : w43.cell? ⟨gb315, 1, none⟩ = some (.string t308) := (blk_cell BK315.out 1).trans rfl
          have hcz61_2 : w43.cell? ⟨gb315, 2, none⟩ = some (.slice Ao9 t309.length co9) := (blk_cell BK315.out 2).trans rfl
          have hcz61_3 : w43.cell? ⟨gb315, 3, none⟩ = some (.string t312) := (blk_cell BK315.out 3).trans rfl
          have hfz61_0 := blk_frozen BK315.out 0
          have hfz61_1 := blk_frozen BK315.out 1
          have hfz61_2 := blk_frozen BK315.out 2
          have hfz61_3 := blk_frozen BK315.out 3
          go_wp2_with (first | ((with_reducible refine gate_callee (f := 13) rfl ?_); refine goesL_ (some 62) rfl rfl Tryz.func13 (by kernel_rfl) rfl #[.agg #[.int .i64 t329, .string t330, .slice Ao47 t331.length co47, .string t334], .agg #[.int .i64 t307, .string t308, .slice Ao9 t309.length co9, .string t312]] rfl (by (try simp only [List.map_toArray, List.map_cons, List.map_nil]); first | done | rfl | (simp only [List.length_drop, List.length_take]; rfl)) ?_; (with_reducible refine (laws_eqResponse.calls kj4 t329 t330 _ _ t331 t334 t307 t308 _ _ t309 t312 true _ ?side1 ?side2 ?side3 ?side4 A48.out).mono ?_); (case side1 => refine (Kd.R_reads' (e := 75) (base := w.heap.size) (ok := fun k_ => ((True ∧ some k_ ≠ (.slice Ao9 t309.length co9 : Value).ownBlock) ∧ some k_ ≠ (.slice Ao14 t318.length co14 : Value).ownBlock)) (n := t331.length) (c := co47) ?_).2.2; exact (by (with_reducible repeat (first | apply Kd.R_alloc | apply Kd.R_drewN | apply Kd.R_drew)); exact (Kd.R_mono (Kd.R_far (p := ⟨gb337, 3, none⟩) (Kd.R_far (p := ⟨gb337, 2, none⟩) (Kd.R_far (p := ⟨gb337, 1, none⟩) (Kd.R_far (p := ⟨gb337, 0, none⟩) (Kd.R_types HO333.out BK337.out (by decide)) (fun _ hk => hk.2) (.int .i64 t329)) (fun _ hk => hk.2) (.string t330)) (fun _ hk => hk.2) (.slice Ao47 t331.length co47)) (fun _ hk => hk.2) (.string t334)) (fun _ h_ => h_.1)))); (case side2 => exact (Kd.R_reads' HO333.out).2.1); (case side3 => refine (Kd.R_reads' (e := 75) (base := w.heap.size) (ok := fun k_ => (some k_ ≠ (.slice Ao14 t318.length co14 : Value).ownBlock ∧ some k_ ≠ (.slice Ao47 t331.length co47 : Value).ownBlock)) (n := t309.length) (c := co9) ?_).2.2; exact (by (with_reducible repeat (first | apply Kd.R_alloc | apply Kd.R_drewN | apply Kd.R_drew)); exact (Kd.R_mono (Kd.R_far (p := ⟨gb337, 3, none⟩) (Kd.R_far (p := ⟨gb337, 2, none⟩) (Kd.R_far (p := ⟨gb337, 1, none⟩) (Kd.R_far (p := ⟨gb337, 0, none⟩) (Kd.R_types HO_316002.out BK337.out (by decide)) (fun _ hk => hk.2) (.int .i64 t329)) (fun _ hk => hk.2) (.string t330)) (fun _ hk => hk.2) (.slice Ao47 t331.length co47)) (fun _ hk => hk.2) (.string t334)) (fun _ h_ => h_.1)))); (case side4 => exact (Kd.R_reads' HO_316002.out).2.1); rintro e w62 ⟨rfl, hb⟩; refine ⟨_, rfl, ?_⟩; have n0_ := Aside0.mk (Kd.R_below (by (with_reducible repeat (first | apply Kd.R_alloc | apply Kd.R_drewN | apply Kd.R_drew)); exact (Kd.R_mono (Kd.R_far (p := ⟨gb337, 3, none⟩) (Kd.R_far (p := ⟨gb337, 2, none⟩) (Kd.R_far (p := ⟨gb337, 1, none⟩) (Kd.R_far (p := ⟨gb337, 0, none⟩) (Kd.R_types HO_316002.out BK337.out (by decide)) (fun _ hk => hk.2) (.int .i64 t329)) (fun _ hk => hk.2) (.string t330)) (fun _ hk => hk.2) (.slice Ao47 t331.length co47)) (fun _ hk => hk.2) (.string t334)) (fun _ h_ => h_.1))) hb); have n1_ := Aside0.mk (Kd.R_below (by (with_reducible repeat (first | apply Kd.R_alloc | apply Kd.R_drewN | apply Kd.R_drew)); exact (Kd.R_mono (Kd.R_far (p := ⟨gb337, 3, none⟩) (Kd.R_far (p := ⟨gb337, 2, none⟩) (Kd.R_far (p := ⟨gb337, 1, none⟩) (Kd.R_far (p := ⟨gb337, 0, none⟩) (Kd.R_types HO_325002.out BK337.out (by decide)) (fun _ hk => hk.2) (.int .i64 t329)) (fun _ hk => hk.2) (.string t330)) (fun _ hk => hk.2) (.slice Ao47 t331.length co47)) (fun _ hk => hk.2) (.string t334)) (fun _ h_ => h_.1))) hb); have n2_ := Aside0.mk (Kd.R_below (by (with_reducible repeat (first | apply Kd.R_alloc | apply Kd.R_drewN | apply Kd.R_drew)); exact (Kd.R_mono (Kd.R_far (p := ⟨gb337, 3, none⟩) (Kd.R_far (p := ⟨gb337, 2, none⟩) (Kd.R_far (p := ⟨gb337, 1, none⟩) (Kd.R_far (p := ⟨gb337, 0, none⟩) (Kd.R_types HO333.out BK337.out (by decide)) (fun _ hk => hk.2) (.int .i64 t329)) (fun _ hk => hk.2) (.string t330)) (fun _ hk => hk.2) (.slice Ao47 t331.length co47)) (fun _ hk => hk.2) (.string t334)) (fun _ h_ => h_.1))) hb); have n3_ := Aside0.mk (blk_below (g := gb315) (o := .cells #[.int .i64 t307, .string t308, .slice Ao9 t309.length co9, .string t312] 31 (0, 0)) (by (with_reducible repeat (first | refine blk_drewN ?_ _ | refine blk_drew ?_ | refine blk_alloc ?_ _)); refine blk_far ?_ NB315_337.out _; (with_reducible repeat (first | refine blk_drewN ?_ _ | refine blk_drew ?_ | refine blk_alloc ?_ _)); refine blk_far ?_ NB315_337.out _; (with_reducible repeat (first | refine blk_drewN ?_ _ | refine blk_drew ?_ | refine blk_alloc ?_ _)); refine blk_far ?_ NB315_337.out _; (with_reducible repeat (first | refine blk_drewN ?_ _ | refine blk_drew ?_ | refine blk_alloc ?_ _)); refine blk_far ?_ NB315_337.out _; exact bk BK315.out) hb); have n4_ := Aside0.mk (blk_below (g := gb324) (o := .cells #[.int .i64 t316, .string t317, .slice Ao14 t318.length co14, .string t321] 31 (0, 0)) (by (with_reducible repeat (first | refine blk_drewN ?_ _ | refine blk_drew ?_ | refine blk_alloc ?_ _)); refine blk_far ?_ NB324_337.out _; (with_reducible repeat (first | refine blk_drewN ?_ _ | refine blk_drew ?_ | refine blk_alloc ?_ _)); refine blk_far ?_ NB324_337.out _; (with_reducible repeat (first | refine blk_drewN ?_ _ | refine blk_drew ?_ | refine blk_alloc ?_ _)); refine blk_far ?_ NB324_337.out _; (with_reducible repeat (first | refine blk_drewN ?_ _ | refine blk_drew ?_ | refine blk_alloc ?_ _)); refine blk_far ?_ NB324_337.out _; exact bk BK324.out) hb); have n5_ := Aside0.mk (blk_below (g := gb337) (o := .cells #[.int .i64 t329, .string t330, .slice Ao47 t331.length co47, .string t334] 31 (0, 0)) (by (with_reducible repeat (first | refine blk_drewN ?_ _ | refine blk_drew ?_ | refine blk_alloc ?_ _)); refine blk_put (cs := #[.int .i64 t329, .string t330, .slice Ao47 t331.length co47, .string (⟨#[]⟩ : ByteArray)]) ?_ 3 _ rfl; (with_reducible repeat (first | refine blk_drewN ?_ _ | refine blk_drew ?_ | refine blk_alloc ?_ _)); refine blk_put (cs := #[.int .i64 t329, .string t330, .slice none 0 0, .string (⟨#[]⟩ : ByteArray)]) ?_ 2 _ rfl; (with_reducible repeat (first | refine blk_drewN ?_ _ | refine blk_drew ?_ | refine blk_alloc ?_ _)); refine blk_put (cs := #[.int .i64 t329, .string (⟨#[]⟩ : ByteArray), .slice none 0 0, .string (⟨#[]⟩ : ByteArray)]) ?_ 1 _ rfl; (with_reducible repeat (first | refine blk_drewN ?_ _ | refine blk_drew ?_ | refine blk_alloc ?_ _)); refine blk_put (cs := #[.int .i64 0, .string (⟨#[]⟩ : ByteArray), .slice none 0 0, .string (⟨#[]⟩ : ByteArray)]) ?_ 0 _ rfl; exact bk BK337.out) hb); have n6_ := Aside0.mk (below_step (bl3 HB.out GE315.out GE324.out GE337.out) hb); clear HO_316002; clear HO_325002; clear HO333; clear BK315; clear BK324; clear BK337; clear HB; have HO_316002 := n0_; have HO_325002 := n1_; have HO333 := n2_; have BK315 := n3_; have BK324 := n4_; have BK337 := n5_; have HB := n6_; clear n0_ n1_ n2_ n3_ n4_ n5_ n6_; (try clear hb); (try clear hb2); (try clear hk); (try clear hi)))
          go_meet
          case rel => exact ⟨_, (true), (by first | rfl | (simp; done) | (simp [*]; done)), H', ⟨by have := HJ4.out; first | omega | exact Nat.le_refl _⟩, ⟨kr HO_316002.out⟩, ⟨kr HO_325002.out⟩, ⟨by (with_reducible repeat (first | apply Kd.R_alloc | apply Kd.R_drewN | apply Kd.R_drew)); exact Kd.R_mono HO333.out (fun _ hk => ⟨hk.1.2, hk.2⟩)⟩, ⟨bk BK315.out⟩, ⟨bk BK324.out⟩, ⟨bk BK337.out⟩, ⟨bl3 HB.out GE315.out GE324.out GE337.out⟩⟩
        ·replace c49 := Bool.eq_false_iff.mpr c49
         subst c49
         have H1 : (laws_FnExactTakeResponse.j1 kj4 t326 true t316 t317 t327 t321) = some r := by rw [if_neg (show ¬ (false = true) by decide)] at H; exact H
         clear H
         have H := H1
         clear H1
         have H' := Aside0.mk H
         clear H
         have hnb63 := NB337_315.out
         have hnc63 := NB315_337.out
         have hnb64 := NB337_324.out
         have hnc64 := NB324_337.out
         have hcz65_0 : w43.cell? ⟨gb337, 0, none⟩ = some (.int .i64 0) := (blk_cell BK337.out 0).trans rfl
         have hcz65_1 : w43.cell? ⟨gb337, 1, none⟩ = some (.string (⟨#[]⟩ : ByteArray)) := (blk_cell BK337.out 1).trans rfl
         have hcz65_2 : w43.cell? ⟨gb337, 2, none⟩ = some (.slice none 0 0) := (blk_cell BK337.out 2).trans rfl
         have hcz65_3 : w43.cell? ⟨gb337, 3, none⟩ = some (.string (⟨#[]⟩ : ByteArray)) := (blk_cell BK337.out 3).trans rfl
         have hfz65_0 := blk_frozen BK337.out 0
         have hfz65_1 := blk_frozen BK337.out 1
         have hfz65_2 := blk_frozen BK337.out 2
         have hfz65_3 := blk_frozen BK337.out 3
         have hnb66 := NB315_324.out
         have hnc66 := NB324_315.out
         have hcz67_0 : w43.cell? ⟨gb315, 0, none⟩ = some (.int .i64 t307) := (blk_cell BK315.out 0).trans rfl
         have hcz67_1 : w43.cell? ⟨gb315, 1, none⟩ = some (.string t308) := (blk_cell BK315.out 1).trans rfl
         have hcz67_2 : w43.cell? ⟨gb315, 2, none⟩ = some (.slice Ao9 t309.length co9) := (blk_cell BK315.out 2).trans rfl
         have hcz67_3 : w43.cell? ⟨gb315, 3, none⟩ = some (.string t312) := (blk_cell BK315.out 3).trans rfl
         have hfz67_0 := blk_frozen BK315.out 0
         have hfz67_1 := blk_frozen BK315.out 1
         have hfz67_2 := blk_frozen BK315.out 2
         have hfz67_3 := blk_frozen BK315.out 3
         go_wp2_with (first | ((with_reducible refine gate_callee (f := 13) rfl ?_); refine goesL_ (some 62) rfl rfl Tryz.func13 (by kernel_rfl) rfl #[.agg #[.int .i64 t329, .string t330, .slice Ao47 t331.length co47, .string t334], .agg #[.int .i64 t307, .string t308, .slice Ao9 t309.length co9, .string t312]] rfl (by (try simp only [List.map_toArray, List.map_cons, List.map_nil]); first | done | rfl | (simp only [List.length_drop, List.length_take]; rfl)) ?_; (with_reducible refine (laws_eqResponse.calls kj4 t329 t330 _ _ t331 t334 t307 t308 _ _ t309 t312 false _ ?side1 ?side2 ?side3 ?side4 A48.out).mono ?_); (case side1 => refine (Kd.R_reads' (e := 75) (base := w.heap.size) (ok := fun k_ => ((True ∧ some k_ ≠ (.slice Ao9 t309.length co9 : Value).ownBlock) ∧ some k_ ≠ (.slice Ao14 t318.length co14 : Value).ownBlock)) (n := t331.length) (c := co47) ?_).2.2; exact (by (with_reducible repeat (first | apply Kd.R_alloc | apply Kd.R_drewN | apply Kd.R_drew)); exact (Kd.R_mono (Kd.R_far (p := ⟨gb337, 3, none⟩) (Kd.R_far (p := ⟨gb337, 2, none⟩) (Kd.R_far (p := ⟨gb337, 1, none⟩) (Kd.R_far (p := ⟨gb337, 0, none⟩) (Kd.R_types HO333.out BK337.out (by decide)) (fun _ hk => hk.2) (.int .i64 t329)) (fun _ hk => hk.2) (.string t330)) (fun _ hk => hk.2) (.slice Ao47 t331.length co47)) (fun _ hk => hk.2) (.string t334)) (fun _ h_ => h_.1)))); (case side2 => exact (Kd.R_reads' HO333.out).2.1); (case side3 => refine (Kd.R_reads' (e := 75) (base := w.heap.size) (ok := fun k_ => (some k_ ≠ (.slice Ao14 t318.length co14 : Value).ownBlock ∧ some k_ ≠ (.slice Ao47 t331.length co47 : Value).ownBlock)) (n := t309.length) (c := co9) ?_).2.2; exact (by (with_reducible repeat (first | apply Kd.R_alloc | apply Kd.R_drewN | apply Kd.R_drew)); exact (Kd.R_mono (Kd.R_far (p := ⟨gb337, 3, none⟩) (Kd.R_far (p := ⟨gb337, 2, none⟩) (Kd.R_far (p := ⟨gb337, 1, none⟩) (Kd.R_far (p := ⟨gb337, 0, none⟩) (Kd.R_types HO_316002.out BK337.out (by decide)) (fun _ hk => hk.2) (.int .i64 t329)) (fun _ hk => hk.2) (.string t330)) (fun _ hk => hk.2) (.slice Ao47 t331.length co47)) (fun _ hk => hk.2) (.string t334)) (fun _ h_ => h_.1)))); (case side4 => exact (Kd.R_reads' HO_316002.out).2.1); rintro e w68 ⟨rfl, hb⟩; refine ⟨_, rfl, ?_⟩; have n0_ := Aside0.mk (Kd.R_below (by (with_reducible repeat (first | apply Kd.R_alloc | apply Kd.R_drewN | apply Kd.R_drew)); exact (Kd.R_mono (Kd.R_far (p := ⟨gb337, 3, none⟩) (Kd.R_far (p := ⟨gb337, 2, none⟩) (Kd.R_far (p := ⟨gb337, 1, none⟩) (Kd.R_far (p := ⟨gb337, 0, none⟩) (Kd.R_types HO_316002.out BK337.out (by decide)) (fun _ hk => hk.2) (.int .i64 t329)) (fun _ hk => hk.2) (.string t330)) (fun _ hk => hk.2) (.slice Ao47 t331.length co47)) (fun _ hk => hk.2) (.string t334)) (fun _ h_ => h_.1))) hb); have n1_ := Aside0.mk (Kd.R_below (by (with_reducible repeat (first | apply Kd.R_alloc | apply Kd.R_drewN | apply Kd.R_drew)); exact (Kd.R_mono (Kd.R_far (p := ⟨gb337, 3, none⟩) (Kd.R_far (p := ⟨gb337, 2, none⟩) (Kd.R_far (p := ⟨gb337, 1, none⟩) (Kd.R_far (p := ⟨gb337, 0, none⟩) (Kd.R_types HO_325002.out BK337.out (by decide)) (fun _ hk => hk.2) (.int .i64 t329)) (fun _ hk => hk.2) (.string t330)) (fun _ hk => hk.2) (.slice Ao47 t331.length co47)) (fun _ hk => hk.2) (.string t334)) (fun _ h_ => h_.1))) hb); have n2_ := Aside0.mk (Kd.R_below (by (with_reducible repeat (first | apply Kd.R_alloc | apply Kd.R_drewN | apply Kd.R_drew)); exact (Kd.R_mono (Kd.R_far (p := ⟨gb337, 3, none⟩) (Kd.R_far (p := ⟨gb337, 2, none⟩) (Kd.R_far (p := ⟨gb337, 1, none⟩) (Kd.R_far (p := ⟨gb337, 0, none⟩) (Kd.R_types HO333.out BK337.out (by decide)) (fun _ hk => hk.2) (.int .i64 t329)) (fun _ hk => hk.2) (.string t330)) (fun _ hk => hk.2) (.slice Ao47 t331.length co47)) (fun _ hk => hk.2) (.string t334)) (fun _ h_ => h_.1))) hb); have n3_ := Aside0.mk (blk_below (g := gb315) (o := .cells #[.int .i64 t307, .string t308, .slice Ao9 t309.length co9, .string t312] 31 (0, 0)) (by (with_reducible repeat (first | refine blk_drewN ?_ _ | refine blk_drew ?_ | refine blk_alloc ?_ _)); refine blk_far ?_ NB315_337.out _; (with_reducible repeat (first | refine blk_drewN ?_ _ | refine blk_drew ?_ | refine blk_alloc ?_ _)); refine blk_far ?_ NB315_337.out _; (with_reducible repeat (first | refine blk_drewN ?_ _ | refine blk_drew ?_ | refine blk_alloc ?_ _)); refine blk_far ?_ NB315_337.out _; (with_reducible repeat (first | refine blk_drewN ?_ _ | refine blk_drew ?_ | refine blk_alloc ?_ _)); refine blk_far ?_ NB315_337.out _; exact bk BK315.out) hb); have n4_ := Aside0.mk (blk_below (g := gb324) (o := .cells #[.int .i64 t316, .string t317, .slice Ao14 t318.length co14, .string t321] 31 (0, 0)) (by (with_reducible repeat (first | refine blk_drewN ?_ _ | refine blk_drew ?_ | refine blk_alloc ?_ _)); refine blk_far ?_ NB324_337.out _; (with_reducible repeat (first | refine blk_drewN ?_ _ | refine blk_drew ?_ | refine blk_alloc ?_ _)); refine blk_far ?_ NB324_337.out _; (with_reducible repeat (first | refine blk_drewN ?_ _ | refine blk_drew ?_ | refine blk_alloc ?_ _)); refine blk_far ?_ NB324_337.out _; (with_reducible repeat (first | refine blk_drewN ?_ _ | refine blk_drew ?_ | refine blk_alloc ?_ _)); refine blk_far ?_ NB324_337.out _; exact bk BK324.out) hb); have n5_ := Aside0.mk (blk_below (g := gb337) (o := .cells #[.int .i64 t329, .string t330, .slice Ao47 t331.length co47, .string t334] 31 (0, 0)) (by (with_reducible repeat (first | refine blk_drewN ?_ _ | refine blk_drew ?_ | refine blk_alloc ?_ _)); refine blk_put (cs := #[.int .i64 t329, .string t330, .slice Ao47 t331.length co47, .string (⟨#[]⟩ : ByteArray)]) ?_ 3 _ rfl; (with_reducible repeat (first | refine blk_drewN ?_ _ | refine blk_drew ?_ | refine blk_alloc ?_ _)); refine blk_put (cs := #[.int .i64 t329, .string t330, .slice none 0 0, .string (⟨#[]⟩ : ByteArray)]) ?_ 2 _ rfl; (with_reducible repeat (first | refine blk_drewN ?_ _ | refine blk_drew ?_ | refine blk_alloc ?_ _)); refine blk_put (cs := #[.int .i64 t329, .string (⟨#[]⟩ : ByteArray), .slice none 0 0, .string (⟨#[]⟩ : ByteArray)]) ?_ 1 _ rfl; (with_reducible repeat (first | refine blk_drewN ?_ _ | refine blk_drew ?_ | refine blk_alloc ?_ _)); refine blk_put (cs := #[.int .i64 0, .string (⟨#[]⟩ : ByteArray), .slice none 0 0, .string (⟨#[]⟩ : ByteArray)]) ?_ 0 _ rfl; exact bk BK337.out) hb); have n6_ := Aside0.mk (below_step (bl3 HB.out GE315.out GE324.out GE337.out) hb); clear HO_316002; clear HO_325002; clear HO333; clear BK315; clear BK324; clear BK337; clear HB; have HO_316002 := n0_; have HO_325002 := n1_; have HO333 := n2_; have BK315 := n3_; have BK324 := n4_; have BK337 := n5_; have HB := n6_; clear n0_ n1_ n2_ n3_ n4_ n5_ n6_; (try clear hb); (try clear hb2); (try clear hk); (try clear hi)))
         go_meet
         case rel => exact ⟨_, (true), (by first | rfl | (simp; done) | (simp [*]; done)), H', ⟨by have := HJ4.out; first | omega | exact Nat.le_refl _⟩, ⟨kr HO_316002.out⟩, ⟨kr HO_325002.out⟩, ⟨by (with_reducible repeat (first | apply Kd.R_alloc | apply Kd.R_drewN | apply Kd.R_drew)); exact Kd.R_mono HO333.out (fun _ hk => ⟨hk.1.2, hk.2⟩)⟩, ⟨bk BK315.out⟩, ⟨bk BK324.out⟩, ⟨bk BK337.out⟩, ⟨bl3 HB.out GE315.out GE324.out GE337.out⟩⟩
       case rest =>
        clear HC36
        try clear c1
        try clear c2
        try clear c2b0
        try clear c2b1
        try clear p2
        try clear c3
        try clear c4
        try clear c5
        try clear c6
        try clear c11
        try clear c12
        try clear c13
        try clear c14
        try clear c15
        try clear c16
        try clear c17
        try clear c17b0
        try clear c17b1
        try clear c18
        try clear c22
        try clear c26
        try clear c30
        try clear c33
        try clear c33b0
        try clear c34
        try clear c34b0
        try clear c34b1
        try clear c37
        try clear c44
        try clear c45
        try clear c49
        try clear c50
        try clear c50b0
        try clear c50b1
        try clear c51
        try clear c52
        try clear c54
        try clear c57
        try clear c58
        try clear c60
        try clear c63
        try clear c64
        try clear c66
        try clear hcz13_0
        try clear hcz13_1
        try clear hcz13_2
        try clear hcz13_3
        try clear hcz19_0
        try clear hcz19_1
        try clear hcz19_2
        try clear hcz19_3
        try clear hcz20_0
        try clear hcz20_1
        try clear hcz20_2
        try clear hcz20_3
        try clear hcz23_0
        try clear hcz23_1
        try clear hcz23_2
        try clear hcz23_3
        try clear hcz24_0
        try clear hcz24_1
        try clear hcz24_2
        try clear hcz24_3
        try clear hcz27_0
        try clear hcz27_1
        try clear hcz27_2
        try clear hcz27_3
        try clear hcz28_0
        try clear hcz28_1
        try clear hcz28_2
        try clear hcz28_3
        try clear hcz38_0
        try clear hcz38_1
        try clear hcz38_2
        try clear hcz38_3
        try clear hcz40_0
        try clear hcz40_1
        try clear hcz40_2
        try clear hcz40_3
        try clear hcz46_0
        try clear hcz46_1
        try clear hcz46_2
        try clear hcz46_3
        try clear hcz53_0
        try clear hcz53_1
        try clear hcz53_2
        try clear hcz53_3
        try clear hcz55_0
        try clear hcz55_1
        try clear hcz55_2
        try clear hcz55_3
        try clear hcz59_0
        try clear hcz59_1
        try clear hcz59_2
        try clear hcz59_3
        try clear hcz61_0
        try clear hcz61_1
        try clear hcz61_2
        try clear hcz61_3
        try clear hcz65_0
        try clear hcz65_1
        try clear hcz65_2
        try clear hcz65_3
        try clear hcz67_0
        try clear hcz67_1
        try clear hcz67_2
        try clear hcz67_3
        try clear hcz8_0
        try clear hcz8_1
        try clear hcz8_2
        try clear hcz8_3
        try clear hfz13_0
        try clear hfz13_1
        try clear hfz13_2
        try clear hfz13_3
        try clear hfz19_0
        try clear hfz19_1
        try clear hfz19_2
        try clear hfz19_3
        try clear hfz20_0
        try clear hfz20_1
        try clear hfz20_2
        try clear hfz20_3
        try clear hfz23_0
        try clear hfz23_1
        try clear hfz23_2
        try clear hfz23_3
        try clear hfz24_0
        try clear hfz24_1
        try clear hfz24_2
        try clear hfz24_3
        try clear hfz27_0
        try clear hfz27_1
        try clear hfz27_2
        try clear hfz27_3
        try clear hfz28_0
        try clear hfz28_1
        try clear hfz28_2
        try clear hfz28_3
        try clear hfz38_0
        try clear hfz38_1
        try clear hfz38_2
        try clear hfz38_3
        try clear hfz40_0
        try clear hfz40_1
        try clear hfz40_2
        try clear hfz40_3
        try clear hfz46_0
        try clear hfz46_1
        try clear hfz46_2
        try clear hfz46_3
        try clear hfz53_0
        try clear hfz53_1
        try clear hfz53_2
        try clear hfz53_3
        try clear hfz55_0
        try clear hfz55_1
        try clear hfz55_2
        try clear hfz55_3
        try clear hfz59_0
        try clear hfz59_1
        try clear hfz59_2
        try clear hfz59_3
        try clear hfz61_0
        try clear hfz61_1
        try clear hfz61_2
        try clear hfz61_3
        try clear hfz65_0
        try clear hfz65_1
        try clear hfz65_2
        try clear hfz65_3
        try clear hfz67_0
        try clear hfz67_1
        try clear hfz67_2
        try clear hfz67_3
        try clear hfz8_0
        try clear hfz8_1
        try clear hfz8_2
        try clear hfz8_3
        try clear p2
        obtain ⟨kq, x73_35, rfl, HA, HJ35, HO_316002, HO_325002, HO_338002, BK315, BK324, BK337, HB⟩ := hcut
        have hl325002_35 := (Kd.R_reads' HO_325002.out).1
        rw [hl325002_35] at HO_325002
        (try simp only [hl325002_35])
        (try simp only [hl325002_35] at BK315)
        (try simp only [hl325002_35] at BK324)
        (try simp only [hl325002_35] at BK337)
        (try simp only [hl325002_35] at HO_316002)
        (try simp only [hl325002_35] at HO_338002)
        cases kq with
        | zero => exact absurd HA.out (by simp [laws_FnExactTakeResponse.j1])
        | succ kj35 =>
         have H := HA.out
         clear HA
         simp only [laws_FnExactTakeResponse.j1] at H
         by_cases c69 : x73_35 = true
         ·subst c69
          have H1 : (none) = some r := by rw [if_pos rfl] at H; exact H
          clear H
          have H := H1
          clear H1
          exact absurd H (by simp)
         ·replace c69 := Bool.eq_false_iff.mpr c69
          subst c69
          have H1 : ((laws_heldResponse.f kj35 t316 t317 t327 t321 1).bind fun t339 => (if t339 < 0 then (none) else (if t339 = t326 then (some true) else (none)))) = some r := by rw [if_neg (show ¬ (false = true) by decide)] at H; exact H
          clear H
          have H := H1
          clear H1
          replace H := Option.bind_eq_some_iff.mp H
          obtain ⟨t339, A700, H⟩ := H
          try dsimp only at H
          have A70 := Aside0.mk A700
          clear A700
          by_cases c71 : t339 < 0
          ·rw [if_pos c71] at H
           exact absurd H (by simp)
          ·rw [if_neg c71] at H
           have c71b0 : decide (t339 < 0) = false := decide_eq_false c71
           clear c71
           (try (have c71r0 := c71b0; simp only [hl325002_35] at c71r0))
           by_cases c72 : t339 = t326
           ·rw [if_pos c72] at H
            have c72b0 : (t339 == t326) = true := beq_iff_eq.mpr c72
            have c72b1 : (t339 != t326) = false := bne_eq_false_iff_eq.mpr c72
            clear c72
            (try (have c72r0 := c72b0; simp only [hl325002_35] at c72r0))
            (try (have c72r1 := c72b1; simp only [hl325002_35] at c72r1))
            obtain rfl := Option.some.inj H
            have hnb73 := NB324_315.out
            have hnc73 := NB315_324.out
            have hnb74 := NB324_337.out
            have hnc74 := NB337_324.out
            have hcz75_0 : wc.cell? ⟨gb324, 0, none⟩ = some (.int .i64 t316) := (blk_cell BK324.out 0).trans rfl
            have hcz75_1 : wc.cell? ⟨gb324, 1, none⟩ = some (.string t317) := (blk_cell BK324.out 1).trans rfl
            have hcz75_2 : wc.cell? ⟨gb324, 2, none⟩ = some (.slice Ao14 t327.length co14) := (blk_cell BK324.out 2).trans rfl
            have hcz75_3 : wc.cell? ⟨gb324, 3, none⟩ = some (.string t321) := (blk_cell BK324.out 3).trans rfl
            have hfz75_0 := blk_frozen BK324.out 0
            have hfz75_1 := blk_frozen BK324.out 1
            have hfz75_2 := blk_frozen BK324.out 2
            have hfz75_3 := blk_frozen BK324.out 3
            go_wp2_with (first | ((with_reducible refine gate_callee (f := 15) rfl ?_); refine goesL_ (some 76) rfl rfl Tryz.func15 (by kernel_rfl) rfl #[.agg #[.int .i64 t316, .string t317, .slice Ao14 t327.length co14, .string t321], .int .i64 1] rfl (by (try simp only [List.map_toArray, List.map_cons, List.map_nil]); first | done | rfl | (simp only [List.length_drop, List.length_take]; rfl)) ?_; (with_reducible refine (laws_heldResponse.calls kj35 t316 t317 _ _ t327 t321 1 t339 _ ?side1 ?side2 A70.out).mono ?_); (case side1 => exact kc (Kd.R_reads' HO_325002.out).2.2); (case side2 => exact (Kd.R_reads' HO_325002.out).2.1); rintro e w76 ⟨rfl, hb⟩; refine ⟨_, rfl, ?_⟩; have n0_ := Aside0.mk (Kd.R_below (kr HO_316002.out) hb); have n1_ := Aside0.mk (Kd.R_below (kr HO_325002.out) hb); have n2_ := Aside0.mk (Kd.R_below (kr HO_338002.out) hb); have n3_ := Aside0.mk (blk_below (g := gb315) (o := .cells #[.int .i64 t307, .string t308, .slice Ao9 t309.length co9, .string t312] 31 (0, 0)) (bk BK315.out) hb); have n4_ := Aside0.mk (blk_below (g := gb324) (o := .cells #[.int .i64 t316, .string t317, .slice Ao14 t327.length co14, .string t321] 31 (0, 0)) (bk BK324.out) hb); have n5_ := Aside0.mk (blk_below (g := gb337) (o := .cells #[.int .i64 t329, .string t330, .slice Ao47 t331.length co47, .string t334] 31 (0, 0)) (bk BK337.out) hb); have n6_ := Aside0.mk (below_step (bl3 HB.out GE315.out GE324.out GE337.out) hb); clear HO_316002; clear HO_325002; clear HO_338002; clear BK315; clear BK324; clear BK337; clear HB; have HO_316002 := n0_; have HO_325002 := n1_; have HO_338002 := n2_; have BK315 := n3_; have BK324 := n4_; have BK337 := n5_; have HB := n6_; clear n0_ n1_ n2_ n3_ n4_ n5_ n6_; (try clear hb); (try clear hb2); (try clear hk); (try clear hi)))
            go_ret
            exact ⟨by first | rfl | (simp [errW_none, errW_some] <;> rfl) | (simp [*, errW_none, errW_some] <;> rfl), bl3 HB.out GE315.out GE324.out GE337.out⟩
           ·rw [if_neg c72] at H
            exact absurd H (by simp)
      ·rw [if_neg c34] at H
       exact absurd H (by simp)

/-- THE ONE PURE STATEMENT of laws_FnExactTakeResponse: yours. -/
def laws_FnExactTakeResponse.Pure : Prop := ∀ (a0 : ByteArray), a0.size ≤ 140737488351232 → ∃ k, laws_FnExactTakeResponse.f k a0 = some true
theorem laws_FnExactTakeResponse.walk (P : laws_FnExactTakeResponse.Pure) (a0 : ByteArray) (w : World) (w0 : a0.size ≤ 140737488351232) (ht : Glob w) :
  Calls Tryz.prog 4 #[.string a0] w fun e w' => e = .returned (.bool true) ∧ Below w.heap.size w w' := by
 obtain ⟨k, h⟩ := P a0 w0
 refine (laws_FnExactTakeResponse.calls k a0 true w h ht).mono ?_
 rintro e w' ⟨rfl, hd⟩
 exact ⟨rfl, hd⟩

end Go.Proofs.YthneflfbafieeaaGreatDoor.PFnExactTakeResponse
