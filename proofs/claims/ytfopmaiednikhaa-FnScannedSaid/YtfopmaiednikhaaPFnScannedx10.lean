-- written by a program of this session (wip/tool)
import Derived.Test.YtfopmaiednikhaaPFnScannedx0
import Derived.Test.YtfopmaiednikhaaPFnScannedx1
import Derived.Test.YtfopmaiednikhaaPFnScannedx5
import Derived.Test.YtfopmaiednikhaaPFnScannedx8
import Derived.Test.YtfopmaiednikhaaPFnScannedx9
import Derived.Test.YtfopmaiednikhaaVOwn0
import Derived.Test.YtfopmaiednikhaaVOwnOpen
import Derived.WalkKit
import Derived.BigCall
import Derived.Lib.SliceRun
import Derived.Deep.RegionLaw
import Derived.Maps.OwnSet
import Derived.Maps.OwnOps
import Derived.Maps.Views
import Derived.Test.YtfopmaiednikhaaVWZeros
import Derived.Test.YtfopmaiednikhaaVWArr
import Derived.Test.YtfopmaiednikhaaVOwnShort
namespace Go.Proofs.Ytfopmaiednikhaa.PFnScanned
open Go.RowKit Go.Proofs.YtfopmaiednikhaaW.PrintWords Go.Proofs.YtfopmaiednikhaaW.PrintLast Go.Proofs.YtfopmaiednikhaaW.PrintMore Go.Shelf Go.Proofs.YtfopmaiednikhaaOwn
attribute [local go_sem] max2_int min2_int max_two min_two max_three min_three max_four min_four   -- for this text's walks alone
set_option linter.unusedVariables false
set_option linter.unusedSimpArgs false

attribute [local go_sem high] eqA45
/-! ### spec_PlaySegmented: function 18 -/
mutual
def spec_PlaySegmented.j0 : Nat → List (S45) → Bool → Int → Int → List (S45) → List (S45) → Option (Int × Int × (List (S45)) × (List (S45)) × List ByteArray × Bool)
 | 0, _, _, _, _, _, _ => none
 | k + 1, x2, x29, x463000, x463001, x463002, x463003 => if x29 = true then (some (0, 0, ([] : List (S45)), ([] : List (S45)), ([] : List ByteArray), false)) else (spec_PlaySegmented.l0 k ([] : List ByteArray) x2 (x2.length : Int) 0 x463000 x463001 x463002 x463003)
def spec_PlaySegmented.l0 : Nat → List ByteArray → List (S45) → Int → Int → Int → Int → List (S45) → List (S45) → Option (Int × Int × (List (S45)) × (List (S45)) × List ByteArray × Bool)
 | 0, _, _, _, _, _, _, _, _ => none
 | k + 1, x11, x31, x32, x33, x463000, x463001, x463002, x463003 => if x33 < x32 then (if 0 ≤ x33 then (if x33 < (x31.length : Int) then ((spec_l12Entry.f ((rd_T45 x31 x33).f0) ((rd_T45 x31 x33).f1)).bind fun t473 => (if t473 = true then (if ((rd_T45 x31 x33).f1).toList = ([] : List UInt8) then ((spec_l12Get.f k x463000 x463001 x463002 x463003 ((rd_T45 x31 x33).f0)).bind fun bt474 => (if x11.length < 8796093022208 then (spec_PlaySegmented.l0 k (x11 ++ [bt474.2.2.2.2.1]) x31 x32 (wrap64 (x33 + 1)) bt474.1 bt474.2.1 bt474.2.2.1 bt474.2.2.2.1) else (none))) else ((spec_l12Put.f k x463000 x463001 x463002 x463003 ((rd_T45 x31 x33).f0) ((rd_T45 x31 x33).f1)).bind fun bt488 => (spec_PlaySegmented.l0 k x11 x31 x32 (wrap64 (x33 + 1)) bt488.1 bt488.2.1 bt488.2.2.1 bt488.2.2.2.1))) else (some (0, 0, ([] : List (S45)), ([] : List (S45)), ([] : List ByteArray), false)))) else (none)) else (none)) else ((spec_l12Own.f x463000 x463001 x463002 x463003).bind fun bt463 => (some (bt463.1, bt463.2.1, bt463.2.2.1, bt463.2.2.2, x11, true)))
end
def spec_PlaySegmented.f (k : Nat) (a0 : Int) (a1 : Int) (l2 : List (S45)) : Option (Int × Int × (List (S45)) × (List (S45)) × List ByteArray × Bool) := (spec_NewSegmented.f a0 a1).bind fun bt453 => (if bt453.2.2.2.2 = true then (spec_PlaySegmented.j0 k l2 (decide ((l2.length : Int) > 200)) bt453.1 bt453.2.1 bt453.2.2.1 bt453.2.2.2.1) else (spec_PlaySegmented.j0 k l2 true bt453.1 bt453.2.1 bt453.2.2.1 bt453.2.2.2.1))
theorem spec_PlaySegmented.mono_l : ∀ k, (∀ y0 y1 y2 y3 y4 y5, LeO (spec_PlaySegmented.j0 k y0 y1 y2 y3 y4 y5) (spec_PlaySegmented.j0 (k + 1) y0 y1 y2 y3 y4 y5)) ∧ (∀ y0 y1 y2 y3 y4 y5 y6 y7, LeO (spec_PlaySegmented.l0 k y0 y1 y2 y3 y4 y5 y6 y7) (spec_PlaySegmented.l0 (k + 1) y0 y1 y2 y3 y4 y5 y6 y7))
 | 0 => ⟨fun _ _ _ _ _ _ r h => by simp [spec_PlaySegmented.j0] at h, fun _ _ _ _ _ _ _ _ r h => by simp [spec_PlaySegmented.l0] at h⟩
 | k + 1 => by
  obtain ⟨ih0, ih1⟩ := spec_PlaySegmented.mono_l k
  refine ⟨?_, ?_⟩
  ·intro y0 y1 y2 y3 y4 y5
   unfold spec_PlaySegmented.j0
   repeat' first
   | (with_reducible exact ih0 _ _ _ _ _ _)
   | (with_reducible exact ih1 _ _ _ _ _ _ _ _)
   | (with_reducible exact spec_l12Get.mono _ _ _ _ _ _)
   | (with_reducible exact spec_l12Put.mono _ _ _ _ _ _ _)
   | (with_reducible exact LeO.refl _)
   | (with_reducible exact LeO.none _)
   | (with_reducible refine LeO.ite ?_ ?_)
   | (with_reducible refine LeO.bind ?_ (fun _ => ?_))
   | exact ih0 _ _ _ _ _ _
   | exact ih1 _ _ _ _ _ _ _ _
   | exact spec_l12Get.mono _ _ _ _ _ _
   | exact spec_l12Put.mono _ _ _ _ _ _ _
   | exact LeO.none _
   | refine LeO.ite ?_ ?_
   | refine LeO.bind ?_ (fun _ => ?_)
  ·intro y0 y1 y2 y3 y4 y5 y6 y7
   unfold spec_PlaySegmented.l0
   repeat' first
   | (with_reducible exact ih0 _ _ _ _ _ _)
   | (with_reducible exact ih1 _ _ _ _ _ _ _ _)
   | (with_reducible exact spec_l12Get.mono _ _ _ _ _ _)
   | (with_reducible exact spec_l12Put.mono _ _ _ _ _ _ _)
   | (with_reducible exact LeO.refl _)
   | (with_reducible exact LeO.none _)
   | (with_reducible refine LeO.ite ?_ ?_)
   | (with_reducible refine LeO.bind ?_ (fun _ => ?_))
   | exact ih0 _ _ _ _ _ _
   | exact ih1 _ _ _ _ _ _ _ _
   | exact spec_l12Get.mono _ _ _ _ _ _
   | exact spec_l12Put.mono _ _ _ _ _ _ _
   | exact LeO.none _
   | refine LeO.ite ?_ ?_
   | refine LeO.bind ?_ (fun _ => ?_)
theorem spec_PlaySegmented.mono : ∀ a0 a1 a2 k, LeO (spec_PlaySegmented.f k a0 a1 a2) (spec_PlaySegmented.f (k + 1) a0 a1 a2) := by
 intro a0 a1 a2 k
 obtain ⟨ih0, ih1⟩ := spec_PlaySegmented.mono_l k
 unfold spec_PlaySegmented.f
 repeat' first
   | (with_reducible exact ih0 _ _ _ _ _ _)
   | (with_reducible exact ih1 _ _ _ _ _ _ _ _)
   | (with_reducible exact spec_l12Get.mono _ _ _ _ _ _)
   | (with_reducible exact spec_l12Put.mono _ _ _ _ _ _ _)
   | (with_reducible exact LeO.refl _)
   | (with_reducible exact LeO.none _)
   | (with_reducible refine LeO.ite ?_ ?_)
   | (with_reducible refine LeO.bind ?_ (fun _ => ?_))
   | exact ih0 _ _ _ _ _ _
   | exact ih1 _ _ _ _ _ _ _ _
   | exact spec_l12Get.mono _ _ _ _ _ _
   | exact spec_l12Put.mono _ _ _ _ _ _ _
   | exact LeO.none _
   | refine LeO.ite ?_ ?_
   | refine LeO.bind ?_ (fun _ => ?_)
set_option maxHeartbeats 8000000 in
set_option maxRecDepth 100000 in
theorem spec_PlaySegmented.calls (k : Nat) (a0 : Int) (a1 : Int) (A2 : Option Addr) (c2 : Nat) (l2 : List (S45)) (r1 : Int) (r2 : Int) (r3 : List (S45)) (r4 : List (S45)) (r5 : List ByteArray) (r6 : Bool) (w : World) (hr2 : Kd.C k45 w A2 l2.length l2) (hc2 : l2.length ≤ c2) (h : spec_PlaySegmented.f k a0 a1 l2 = some (r1, r2, r3, r4, r5, r6)) :
  Calls Try.prog 18 #[.int .i64 a0, .int .i64 a1, .slice A2 l2.length c2] w fun e w' => ∃ v2_ v3_ v4_ : Value, e = .returned (.tuple #[.agg #[.int .i64 r1, .int .i64 r2, v2_, v3_], v4_, .bool r6]) ∧ Kd.R k45 45 w' w.heap.size (fun k_ => some k_ ≠ (v3_ : Value).ownBlock) v2_ r3 ∧ Kd.R k45 45 w' w.heap.size (fun k_ => some k_ ≠ (v2_ : Value).ownBlock) v3_ r4 ∧ Kd.R Kd.string 9 w' w.heap.size (fun _ => True) v4_ r5 ∧ Below w.heap.size w w' := by
 have hu28 := Try.underlying28
 have hu45 := Try.underlying45
 have HR2 := Aside0.mk hr2
 have HC2 := Aside0.mk hc2
 clear hr2 hc2
 have HB := Aside0.mk (Below.refl w.heap.size w)
 have H : ((spec_NewSegmented.f a0 a1).bind fun bt453 => (if bt453.2.2.2.2 = true then (spec_PlaySegmented.j0 k l2 (decide ((l2.length : Int) > 200)) bt453.1 bt453.2.1 bt453.2.2.1 bt453.2.2.2.1) else (spec_PlaySegmented.j0 k l2 true bt453.1 bt453.2.1 bt453.2.2.1 bt453.2.2.2.1))) = some (r1, r2, r3, r4, r5, r6) := h
 clear h
 replace H := Option.bind_eq_some_iff.mp H
 obtain ⟨⟨t453, t454, t455, t458, t461⟩, A40, H⟩ := H
 try dsimp only at H
 have A4 := Aside0.mk A40
 clear A40
 have HC5 := Aside0.mk H
 clear H
 go_enter Try.func18, Try.ntmps18
 go_upto_region 2 with (first | ((with_reducible refine gate_dst (N := 6) rfl ?_); (try (refine gate_guard (by rfl) ?_; dsimp only)); refine box_event ?hg (N := 6) ?hd (cs := #[.int .i64 0, .int .i64 0, .slice none 0 0, .slice none 0 0]) (t := 28) ?hr ?_; (case hd => rfl); (case hg => rfl); (case hr => first | (go_simp; done) | (go_simp; rfl)); intro gb452 hg w6 hbox hb; have n0_ := Aside0.mk (below_step (bl HB.out) hb); have n1_ := Aside0.mk (hbox); have n2_ := Aside0.mk ((by rw [hg]; exact (below_size (bl HB.out)) : w.heap.size ≤ gb452)); have n3_ := Aside0.mk ((by rw [hg]; exact (below_size (bl HB.out)) : w.heap.size ≤ gb452)); clear HB; have HB := n0_; have BK452 := n1_; have GW452 := n2_; have GE452 := n3_; clear n0_ n1_ n2_ n3_; clear hb hbox hg) | ((with_reducible refine gate_callee (f := 54) rfl ?_); refine goesL_ (some 20) rfl rfl Try.func54 (by kernel_rfl) rfl #[.int .i64 a0, .int .i64 a1] rfl (by (try simp only [List.map_toArray, List.map_cons, List.map_nil]); first | done | rfl | (simp only [List.length_drop, List.length_take]; rfl)) ?_; (with_reducible refine (spec_NewSegmented.calls a0 a1 t453 t454 t455 t458 t461 _ A4.out).mono ?_); rintro e w7 ⟨v456, v459, rfl, ho0, ho1, hb⟩; refine ⟨_, rfl, ?_⟩; have n0_ := Aside0.mk (Kd.R_lower ho0 (below_size (bl1 HB.out GE452.out))); have n1_ := Aside0.mk (Kd.R_lower ho1 (below_size (bl1 HB.out GE452.out))); have n2_ := Aside0.mk (blk_below (bk BK452.out) hb); have n3_ := Aside0.mk (below_step (bl1 HB.out GE452.out) hb); clear BK452; clear HB; have HO457 := n0_; have HO460 := n1_; have BK452 := n2_; have HB := n3_; clear n0_ n1_ n2_ n3_; (try clear hb); (try clear hb2); (try clear hk); (try clear hi); (try clear ho0); (try clear ho1)) | ((with_reducible refine gate_dst (N := 9) rfl ?_); (try (refine gate_guard (by rfl) ?_; dsimp only)); refine box_event ?hg (N := 9) ?hd (cs := #[.int .i64 0, .int .i64 0, .slice none 0 0, .slice none 0 0]) (t := 28) ?hr ?_; (case hd => rfl); (case hg => rfl); (case hr => first | (go_simp; done) | (go_simp; rfl)); intro gb462 hg w8 hbox hb; have n0_ := Aside0.mk (Kd.R_below (kr HO457.out) hb); have n1_ := Aside0.mk (Kd.R_below (kr HO460.out) hb); have n2_ := Aside0.mk (blk_below (bk BK452.out) hb); have n3_ := Aside0.mk (below_step (bl1 HB.out GE452.out) hb); have n4_ := Aside0.mk (hbox); have n5_ := Aside0.mk ((by rw [hg]; exact (below_size (bl1 HB.out GE452.out)) : w.heap.size ≤ gb462)); have n6_ := Aside0.mk ((by rw [hg]; exact (below_size (bl1 HB.out GE452.out)) : w.heap.size ≤ gb462)); have n7_ := Aside0.mk ((by rw [hg]; exact Nat.ne_of_lt (blk_lt (bk BK452.out)) : gb452 ≠ gb462)); have n8_ := Aside0.mk ((by rw [hg]; exact Nat.ne_of_gt (blk_lt (bk BK452.out)) : gb462 ≠ gb452)); clear HO457; clear HO460; clear BK452; clear HB; have HO457 := n0_; have HO460 := n1_; have BK452 := n2_; have HB := n3_; have BK462 := n4_; have GW462 := n5_; have GE462 := n6_; have NB452_462 := n7_; have NB462_452 := n8_; clear n0_ n1_ n2_ n3_ n4_ n5_ n6_ n7_ n8_; clear hb hbox hg; have hnb9 := NB462_452.out; have hnc9 := NB452_462.out; have hcz10_0 : w8.cell? ⟨gb462, 0, none⟩ = some (.int .i64 0) := (blk_cell BK462.out 0).trans rfl; have hcz10_1 : w8.cell? ⟨gb462, 1, none⟩ = some (.int .i64 0) := (blk_cell BK462.out 1).trans rfl; have hcz10_2 : w8.cell? ⟨gb462, 2, none⟩ = some (.slice none 0 0) := (blk_cell BK462.out 2).trans rfl; have hcz10_3 : w8.cell? ⟨gb462, 3, none⟩ = some (.slice none 0 0) := (blk_cell BK462.out 3).trans rfl; have hfz10_0 := blk_frozen BK462.out 0; have hfz10_1 := blk_frozen BK462.out 1; have hfz10_2 := blk_frozen BK462.out 2; have hfz10_3 := blk_frozen BK462.out 3; obtain ⟨Ao11, co11, eo11⟩ := Kd.R_slice HO457.out; subst eo11; obtain ⟨Ao12, co12, eo12⟩ := Kd.R_slice HO460.out; subst eo12))
 (try simp only [Act.put, List.setIfInBounds_toArray, List.set_cons_zero, List.set_cons_succ])
 go_cut [29] (fun v29 wc => ∃ (kq : Nat) (x29_4 : Bool), v29 = .bool x29_4 ∧ Aside0 (spec_PlaySegmented.j0 kq l2 x29_4 t453 t454 t455 t458 = some (r1, r2, r3, r4, r5, r6)) ∧ Aside0 (kq ≤ k) ∧ Aside0 (Kd.R k45 45 wc w.heap.size (fun k_ => some k_ ≠ ((.slice Ao12 t458.length co12) : Value).ownBlock) (.slice Ao11 t455.length co11) t455) ∧ Aside0 (Kd.R k45 45 wc w.heap.size (fun k_ => some k_ ≠ ((.slice Ao11 t455.length co11) : Value).ownBlock) (.slice Ao12 t458.length co12) t458) ∧ Aside0 (wc.heap[gb452]? = some (.cells #[.int .i64 0, .int .i64 0, (.slice none 0 0), (.slice none 0 0)] 28 (0, 0))) ∧ Aside0 (wc.heap[gb462]? = some (.cells #[.int .i64 t453, .int .i64 t454, (.slice Ao11 t455.length co11), (.slice Ao12 t458.length co12)] 28 (0, 0))) ∧ Aside0 (Below w.heap.size w wc))
 case first =>
  have H := HC5.out
  clear HC5
  by_cases c13 : t461 = true
  ·subst c13
   have H1 : (spec_PlaySegmented.j0 k l2 (decide ((l2.length : Int) > 200)) t453 t454 t455 t458) = some (r1, r2, r3, r4, r5, r6) := by rw [if_pos rfl] at H; exact H
   clear H
   have H := H1
   clear H1
   have H' := Aside0.mk H
   clear H
   go_wp2
   go_meet
   case rel => exact ⟨_, (decide ((l2.length : Int) > 200)), (by first | rfl | (simp; done) | (simp [*]; done)), H', ⟨by first | omega | exact Nat.le_refl _⟩, ⟨by (with_reducible repeat (first | apply Kd.R_alloc | apply Kd.R_drewN | apply Kd.R_drew)); exact Kd.R_mono (Kd.R_far (p := ⟨gb462, 3, none⟩) (Kd.R_far (p := ⟨gb462, 2, none⟩) (Kd.R_far (p := ⟨gb462, 1, none⟩) (Kd.R_far (p := ⟨gb462, 0, none⟩) (Kd.R_types HO457.out BK462.out (by decide)) (fun _ hk => hk.2) (.int .i64 t453)) (fun _ hk => hk.2) (.int .i64 t454)) (fun _ hk => hk.2) (.slice Ao11 t455.length co11)) (fun _ hk => hk.2) (.slice Ao12 t458.length co12)) (fun _ hk => hk.1)⟩, ⟨by (with_reducible repeat (first | apply Kd.R_alloc | apply Kd.R_drewN | apply Kd.R_drew)); exact Kd.R_mono (Kd.R_far (p := ⟨gb462, 3, none⟩) (Kd.R_far (p := ⟨gb462, 2, none⟩) (Kd.R_far (p := ⟨gb462, 1, none⟩) (Kd.R_far (p := ⟨gb462, 0, none⟩) (Kd.R_types HO460.out BK462.out (by decide)) (fun _ hk => hk.2) (.int .i64 t453)) (fun _ hk => hk.2) (.int .i64 t454)) (fun _ hk => hk.2) (.slice Ao11 t455.length co11)) (fun _ hk => hk.2) (.slice Ao12 t458.length co12)) (fun _ hk => hk.1)⟩, ⟨by (with_reducible repeat (first | refine blk_drewN ?_ _ | refine blk_drew ?_ | refine blk_alloc ?_ _)); refine blk_far ?_ NB452_462.out _; (with_reducible repeat (first | refine blk_drewN ?_ _ | refine blk_drew ?_ | refine blk_alloc ?_ _)); refine blk_far ?_ NB452_462.out _; (with_reducible repeat (first | refine blk_drewN ?_ _ | refine blk_drew ?_ | refine blk_alloc ?_ _)); refine blk_far ?_ NB452_462.out _; (with_reducible repeat (first | refine blk_drewN ?_ _ | refine blk_drew ?_ | refine blk_alloc ?_ _)); refine blk_far ?_ NB452_462.out _; exact bk BK452.out⟩, ⟨by (with_reducible repeat (first | refine blk_drewN ?_ _ | refine blk_drew ?_ | refine blk_alloc ?_ _)); refine blk_put (cs := #[.int .i64 t453, .int .i64 t454, .slice Ao11 t455.length co11, .slice none 0 0]) ?_ 3 _ rfl; (with_reducible repeat (first | refine blk_drewN ?_ _ | refine blk_drew ?_ | refine blk_alloc ?_ _)); refine blk_put (cs := #[.int .i64 t453, .int .i64 t454, .slice none 0 0, .slice none 0 0]) ?_ 2 _ rfl; (with_reducible repeat (first | refine blk_drewN ?_ _ | refine blk_drew ?_ | refine blk_alloc ?_ _)); refine blk_put (cs := #[.int .i64 t453, .int .i64 0, .slice none 0 0, .slice none 0 0]) ?_ 1 _ rfl; (with_reducible repeat (first | refine blk_drewN ?_ _ | refine blk_drew ?_ | refine blk_alloc ?_ _)); refine blk_put (cs := #[.int .i64 0, .int .i64 0, .slice none 0 0, .slice none 0 0]) ?_ 0 _ rfl; exact bk BK462.out⟩, ⟨bl2 HB.out GE452.out GE462.out⟩⟩
  ·replace c13 := Bool.eq_false_iff.mpr c13
   subst c13
   have H1 : (spec_PlaySegmented.j0 k l2 true t453 t454 t455 t458) = some (r1, r2, r3, r4, r5, r6) := by rw [if_neg (show ¬ (false = true) by decide)] at H; exact H
   clear H
   have H := H1
   clear H1
   have H' := Aside0.mk H
   clear H
   go_wp2
   go_meet
   case rel => exact ⟨_, (true), (by first | rfl | (simp; done) | (simp [*]; done)), H', ⟨by first | omega | exact Nat.le_refl _⟩, ⟨by (with_reducible repeat (first | apply Kd.R_alloc | apply Kd.R_drewN | apply Kd.R_drew)); exact Kd.R_mono (Kd.R_far (p := ⟨gb462, 3, none⟩) (Kd.R_far (p := ⟨gb462, 2, none⟩) (Kd.R_far (p := ⟨gb462, 1, none⟩) (Kd.R_far (p := ⟨gb462, 0, none⟩) (Kd.R_types HO457.out BK462.out (by decide)) (fun _ hk => hk.2) (.int .i64 t453)) (fun _ hk => hk.2) (.int .i64 t454)) (fun _ hk => hk.2) (.slice Ao11 t455.length co11)) (fun _ hk => hk.2) (.slice Ao12 t458.length co12)) (fun _ hk => hk.1)⟩, ⟨by (with_reducible repeat (first | apply Kd.R_alloc | apply Kd.R_drewN | apply Kd.R_drew)); exact Kd.R_mono (Kd.R_far (p := ⟨gb462, 3, none⟩) (Kd.R_far (p := ⟨gb462, 2, none⟩) (Kd.R_far (p := ⟨gb462, 1, none⟩) (Kd.R_far (p := ⟨gb462, 0, none⟩) (Kd.R_types HO460.out BK462.out (by decide)) (fun _ hk => hk.2) (.int .i64 t453)) (fun _ hk => hk.2) (.int .i64 t454)) (fun _ hk => hk.2) (.slice Ao11 t455.length co11)) (fun _ hk => hk.2) (.slice Ao12 t458.length co12)) (fun _ hk => hk.1)⟩, ⟨by (with_reducible repeat (first | refine blk_drewN ?_ _ | refine blk_drew ?_ | refine blk_alloc ?_ _)); refine blk_far ?_ NB452_462.out _; (with_reducible repeat (first | refine blk_drewN ?_ _ | refine blk_drew ?_ | refine blk_alloc ?_ _)); refine blk_far ?_ NB452_462.out _; (with_reducible repeat (first | refine blk_drewN ?_ _ | refine blk_drew ?_ | refine blk_alloc ?_ _)); refine blk_far ?_ NB452_462.out _; (with_reducible repeat (first | refine blk_drewN ?_ _ | refine blk_drew ?_ | refine blk_alloc ?_ _)); refine blk_far ?_ NB452_462.out _; exact bk BK452.out⟩, ⟨by (with_reducible repeat (first | refine blk_drewN ?_ _ | refine blk_drew ?_ | refine blk_alloc ?_ _)); refine blk_put (cs := #[.int .i64 t453, .int .i64 t454, .slice Ao11 t455.length co11, .slice none 0 0]) ?_ 3 _ rfl; (with_reducible repeat (first | refine blk_drewN ?_ _ | refine blk_drew ?_ | refine blk_alloc ?_ _)); refine blk_put (cs := #[.int .i64 t453, .int .i64 t454, .slice none 0 0, .slice none 0 0]) ?_ 2 _ rfl; (with_reducible repeat (first | refine blk_drewN ?_ _ | refine blk_drew ?_ | refine blk_alloc ?_ _)); refine blk_put (cs := #[.int .i64 t453, .int .i64 0, .slice none 0 0, .slice none 0 0]) ?_ 1 _ rfl; (with_reducible repeat (first | refine blk_drewN ?_ _ | refine blk_drew ?_ | refine blk_alloc ?_ _)); refine blk_put (cs := #[.int .i64 0, .int .i64 0, .slice none 0 0, .slice none 0 0]) ?_ 0 _ rfl; exact bk BK462.out⟩, ⟨bl2 HB.out GE452.out GE462.out⟩⟩
 case rest =>
  clear HC5
  try clear c1
  try clear c2
  try clear p2
  try clear c5
  try clear c9
  try clear c13
  try clear hcz10_0
  try clear hcz10_1
  try clear hcz10_2
  try clear hcz10_3
  try clear hfz10_0
  try clear hfz10_1
  try clear hfz10_2
  try clear hfz10_3
  obtain ⟨kq, x29_4, rfl, HA, HJ4, HO_463002, HO_463003, BK452, BK462, HB⟩ := hcut
  cases kq with
  | zero => exact absurd HA.out (by simp [spec_PlaySegmented.j0])
  | succ kj4 =>
   have H := HA.out
   clear HA
   simp only [spec_PlaySegmented.j0] at H
   by_cases c14 : x29_4 = true
   ·subst c14
    have H1 : (some (0, 0, ([] : List (S45)), ([] : List (S45)), ([] : List ByteArray), false)) = some (r1, r2, r3, r4, r5, r6) := by rw [if_pos rfl] at H; exact H
    clear H
    have H := H1
    clear H1
    simp only [Option.some.injEq, Prod.mk.injEq] at H
    obtain ⟨rfl, rfl, rfl, rfl, rfl, rfl⟩ := H
    have hnb15 := NB452_462.out
    have hnc15 := NB462_452.out
    have hcz16_0 : wc.cell? ⟨gb452, 0, none⟩ = some (.int .i64 0) := (blk_cell BK452.out 0).trans rfl
    have hcz16_1 : wc.cell? ⟨gb452, 1, none⟩ = some (.int .i64 0) := (blk_cell BK452.out 1).trans rfl
    have hcz16_2 : wc.cell? ⟨gb452, 2, none⟩ = some (.slice none 0 0) := (blk_cell BK452.out 2).trans rfl
    have hcz16_3 : wc.cell? ⟨gb452, 3, none⟩ = some (.slice none 0 0) := (blk_cell BK452.out 3).trans rfl
    have hfz16_0 := blk_frozen BK452.out 0
    have hfz16_1 := blk_frozen BK452.out 1
    have hfz16_2 := blk_frozen BK452.out 2
    have hfz16_3 := blk_frozen BK452.out 3
    go_wp2
    refine bodyPost_ret (results_ctt rfl _ _ gb452 28 #[.int .i64 0, .int .i64 0, .slice none 0 0, .slice none 0 0] (0, 0) _ rfl (by (with_reducible repeat (first | refine blk_drewN ?_ _ | refine blk_drew ?_ | refine blk_alloc ?_ _)); refine blk_put (cs := #[.int .i64 0, .int .i64 0, .slice none 0 0, .slice none 0 0]) ?_ 3 _ rfl; (with_reducible repeat (first | refine blk_drewN ?_ _ | refine blk_drew ?_ | refine blk_alloc ?_ _)); refine blk_put (cs := #[.int .i64 0, .int .i64 0, .slice none 0 0, .slice none 0 0]) ?_ 2 _ rfl; (with_reducible repeat (first | refine blk_drewN ?_ _ | refine blk_drew ?_ | refine blk_alloc ?_ _)); refine blk_put (cs := #[.int .i64 0, .int .i64 0, .slice none 0 0, .slice none 0 0]) ?_ 1 _ rfl; (with_reducible repeat (first | refine blk_drewN ?_ _ | refine blk_drew ?_ | refine blk_alloc ?_ _)); refine blk_put (cs := #[.int .i64 0, .int .i64 0, .slice none 0 0, .slice none 0 0]) ?_ 0 _ rfl; exact bk BK452.out) Try.underlying28 rfl (by kernel_rfl)) rfl ?_
    exact ⟨_, _, _, by first | rfl | (simp [errW_none, errW_some] <;> rfl) | (simp [*, errW_none, errW_some] <;> rfl), by first | exact Kd.R_nil _ _ _ _ _ | exact Kd.N_nil _ _ _ _ _ | exact Kd.V_nil _ _ _ _ _ | exact Kd.Q_nil _ _ _ _ _ | exact Kd.S_nil _ _ _ _ _, by first | exact Kd.R_nil _ _ _ _ _ | exact Kd.N_nil _ _ _ _ _ | exact Kd.V_nil _ _ _ _ _ | exact Kd.Q_nil _ _ _ _ _ | exact Kd.S_nil _ _ _ _ _, by first | exact Kd.R_nil _ _ _ _ _ | exact Kd.N_nil _ _ _ _ _ | exact Kd.V_nil _ _ _ _ _ | exact Kd.Q_nil _ _ _ _ _ | exact Kd.S_nil _ _ _ _ _, bl2 HB.out GE452.out GE462.out⟩
   ·replace c14 := Bool.eq_false_iff.mpr c14
    subst c14
    have H1 : (spec_PlaySegmented.l0 kj4 ([] : List ByteArray) l2 (l2.length : Int) 0 t453 t454 t455 t458) = some (r1, r2, r3, r4, r5, r6) := by rw [if_neg (show ¬ (false = true) by decide)] at H; exact H
    clear H
    have H := H1
    clear H1
    have H' := Aside0.mk H
    clear H
    go_wp2
    go_loopg [11, 33] kj4 (fun kq v11 v33 w' => ∃ (x11_2 : List ByteArray) (x33_2 : Int) (x453000_2 : Int) (x453001_2 : Int) (x463000_2 : Int) (x463001_2 : Int) (x463002_2 : List (S45)) (x463003_2 : List (S45)) (u463002 : Value) (u463003 : Value), v33 = .int .i64 x33_2 ∧ Aside0 (spec_PlaySegmented.l0 kq x11_2 l2 (l2.length : Int) x33_2 x463000_2 x463001_2 x463002_2 x463003_2 = some (r1, r2, r3, r4, r5, r6)) ∧ Aside0 (kq ≤ kj4) ∧ Aside0 (Kd.R Kd.string 9 w' w.heap.size (fun _ => True) v11 x11_2) ∧ Aside0 (Kd.R k45 45 w' w.heap.size (fun k_ => some k_ ≠ (u463003 : Value).ownBlock) u463002 x463002_2) ∧ Aside0 (Kd.R k45 45 w' w.heap.size (fun k_ => some k_ ≠ (u463002 : Value).ownBlock) u463003 x463003_2) ∧ Aside0 (w'.heap[gb452]? = some (.cells #[.int .i64 x453000_2, .int .i64 x453001_2, (.slice none 0 0), (.slice none 0 0)] 28 (0, 0))) ∧ Aside0 (w'.heap[gb462]? = some (.cells #[.int .i64 x463000_2, .int .i64 x463001_2, u463002, u463003] 28 (0, 0))) ∧ Aside0 (Below w.heap.size w w'))
    case atStart => exact ⟨(([] : List ByteArray)), (0), (0), (0), (t453), (t454), (t455), (t458), (.slice Ao11 t455.length co11), (.slice Ao12 t458.length co12), (by first | rfl | (simp; done) | (simp [*]; done)), H', ⟨Nat.le_refl _⟩, ⟨by first | exact Kd.R_nil _ _ _ _ _ | exact Kd.N_nil _ _ _ _ _ | exact Kd.V_nil _ _ _ _ _ | exact Kd.Q_nil _ _ _ _ _ | exact Kd.S_nil _ _ _ _ _⟩, ⟨kr HO_463002.out⟩, ⟨kr HO_463003.out⟩, ⟨bk BK452.out⟩, ⟨bk BK462.out⟩, ⟨bl2 HB.out GE452.out GE462.out⟩⟩
    case round =>
     clear H'
     try clear c1
     try clear c2
     try clear p2
     try clear c5
     try clear c9
     try clear c13
     try clear c14
     try clear c15
     try clear hcz10_0
     try clear hcz10_1
     try clear hcz10_2
     try clear hcz10_3
     try clear hcz16_0
     try clear hcz16_1
     try clear hcz16_2
     try clear hcz16_3
     try clear hfz10_0
     try clear hfz10_1
     try clear hfz10_2
     try clear hfz10_3
     try clear hfz16_0
     try clear hfz16_1
     try clear hfz16_2
     try clear hfz16_3
     try clear p2
     obtain ⟨x11_2, x33_2, x453000_2, x453001_2, x463000_2, x463001_2, x463002_2, x463003_2, u463002, u463003, rfl, HA, HK2, HO_11, HO_463002, HO_463003, BK452, BK462, HB⟩ := hrel
     cases gk with
     | zero => exact absurd HA.out (by simp [spec_PlaySegmented.l0])
     | succ k2 =>
      have H := HA.out
      clear HA
      simp only [spec_PlaySegmented.l0] at H
      by_cases c17 : x33_2 < (l2.length : Int)
      ·rw [if_pos c17] at H
       have c17b0 : decide (x33_2 < (l2.length : Int)) = true := decide_eq_true c17
       clear c17
       by_cases c18 : 0 ≤ x33_2
       ·rw [if_pos c18] at H
        have c18b0 : decide (0 ≤ x33_2) = true := decide_eq_true c18
        clear c18
        by_cases c19 : x33_2 < (l2.length : Int)
        ·rw [if_pos c19] at H
         have c19b0 : decide (x33_2 < (l2.length : Int)) = true := decide_eq_true c19
         clear c19
         replace H := Option.bind_eq_some_iff.mp H
         obtain ⟨t473, A200, H⟩ := H
         try dsimp only at H
         have A20 := Aside0.mk A200
         clear A200
         by_cases c21 : t473 = true
         ·subst c21
          have H1 : (if ((rd_T45 l2 x33_2).f1).toList = ([] : List UInt8) then ((spec_l12Get.f k2 x463000_2 x463001_2 x463002_2 x463003_2 ((rd_T45 l2 x33_2).f0)).bind fun bt474 => (if x11_2.length < 8796093022208 then (spec_PlaySegmented.l0 k2 (x11_2 ++ [bt474.2.2.2.2.1]) l2 (l2.length : Int) (wrap64 (x33_2 + 1)) bt474.1 bt474.2.1 bt474.2.2.1 bt474.2.2.2.1) else (none))) else ((spec_l12Put.f k2 x463000_2 x463001_2 x463002_2 x463003_2 ((rd_T45 l2 x33_2).f0) ((rd_T45 l2 x33_2).f1)).bind fun bt488 => (spec_PlaySegmented.l0 k2 x11_2 l2 (l2.length : Int) (wrap64 (x33_2 + 1)) bt488.1 bt488.2.1 bt488.2.2.1 bt488.2.2.2.1))) = some (r1, r2, r3, r4, r5, r6) := by rw [if_pos rfl] at H; exact H
          clear H
          have H := H1
          clear H1
          by_cases c22 : ((rd_T45 l2 x33_2).f1).toList = ([] : List UInt8)
          ·rw [if_pos c22] at H
           have c22b0 : (((rd_T45 l2 x33_2).f1).toList == ([] : List UInt8)) = true := beq_iff_eq.mpr c22
           have c22b1 : (((rd_T45 l2 x33_2).f1).toList != ([] : List UInt8)) = false := bne_eq_false_iff_eq.mpr c22
           clear c22
           replace H := Option.bind_eq_some_iff.mp H
           obtain ⟨⟨t474, t475, t476, t479, t482, t483⟩, A230, H⟩ := H
           try dsimp only at H
           have A23 := Aside0.mk A230
           clear A230
           by_cases c24 : x11_2.length < 8796093022208
           ·rw [if_pos c24] at H
            have LMc24 := Aside0.mk c24
            clear c24
            obtain ⟨y485, hy485⟩ : ∃ y_ : List ByteArray, y_ = (x11_2 ++ [t482]) := ⟨_, rfl⟩
            replace H : (spec_PlaySegmented.l0 k2 y485 l2 (l2.length : Int) (wrap64 (x33_2 + 1)) t474 t475 t476 t479) = some (r1, r2, r3, r4, r5, r6) := by first | (rw [hy485]; with_reducible exact H) | (have H2_ := (Option.bind_some _ _).symm.trans H; rw [hy485]; with_reducible exact H2_) | (have H2_ := (Option.bind_some _ _).symm.trans H; with_reducible exact H2_) | with_reducible exact H | (rw [hy485]; exact H) | exact H
            have Ny485 := Aside0.mk hy485
            clear hy485
            have H' := Aside0.mk H
            clear H
            have p471 : 0 ≤ (x33_2 : Int) := of_decide_eq_true (by first | (with_reducible assumption) | assumption)
            have q471 : x33_2 < (l2.length : Int) := of_decide_eq_true (by first | (with_reducible assumption) | assumption)
            obtain ⟨ad471, e471, hx471_0, hx471_1⟩ := at_T45 HR2.out x33_2 p471 q471
            cases e471
            replace hx471_0 := (HB.out.cell (World.block_lt_of_cell? w _ hx471_0)).trans hx471_0
            replace hx471_1 := (HB.out.cell (World.block_lt_of_cell? w _ hx471_1)).trans hx471_1
            replace p471 := eq_true p471
            replace q471 := eq_true q471
            go_wp2_with (first | ((with_reducible refine gate_dst (N := 13) rfl ?_); (try (refine gate_guard (by rfl) ?_; dsimp only)); refine box_event ?hg (N := 13) ?hd (cs := #[.string (⟨#[]⟩ : ByteArray), .string (⟨#[]⟩ : ByteArray)]) (t := 45) ?hr ?_; (case hd => rfl); (case hg => rfl); (case hr => first | (go_simp; done) | (go_simp; rfl)); intro gb472 hg w25 hbox hb; have n0_ := Aside0.mk (Kd.R_below (kr HO_11.out) hb); have n1_ := Aside0.mk (Kd.R_below (Kd.R_elderB (kr HO_463002.out) gb472 (Nat.le_of_eq hg.symm)) hb); have n2_ := Aside0.mk (Kd.R_below (Kd.R_elderB (kr HO_463003.out) gb472 (Nat.le_of_eq hg.symm)) hb); have n3_ := Aside0.mk (blk_below (bk BK452.out) hb); have n4_ := Aside0.mk (blk_below (bk BK462.out) hb); have n5_ := Aside0.mk (below_step (bl2 HB.out GE452.out GE462.out) hb); have n6_ := Aside0.mk (hbox); have n7_ := Aside0.mk ((by rw [hg]; exact (below_size (bl2 HB.out GE452.out GE462.out)) : w.heap.size ≤ gb472)); have n8_ := Aside0.mk ((by rw [hg]; exact (below_size (bl2 HB.out GE452.out GE462.out)) : w.heap.size ≤ gb472)); have n9_ := Aside0.mk ((by rw [hg]; exact Nat.ne_of_lt (blk_lt (bk BK452.out)) : gb452 ≠ gb472)); have n10_ := Aside0.mk ((by rw [hg]; exact Nat.ne_of_gt (blk_lt (bk BK452.out)) : gb472 ≠ gb452)); have n11_ := Aside0.mk ((by rw [hg]; exact Nat.ne_of_lt (blk_lt (bk BK462.out)) : gb462 ≠ gb472)); have n12_ := Aside0.mk ((by rw [hg]; exact Nat.ne_of_gt (blk_lt (bk BK462.out)) : gb472 ≠ gb462)); clear HO_11; clear HO_463002; clear HO_463003; clear BK452; clear BK462; clear HB; have HO_11 := n0_; have HO_463002 := n1_; have HO_463003 := n2_; have BK452 := n3_; have BK462 := n4_; have HB := n5_; have BK472 := n6_; have GW472 := n7_; have GE472 := n8_; have NB452_472 := n9_; have NB472_452 := n10_; have NB462_472 := n11_; have NB472_462 := n12_; clear n0_ n1_ n2_ n3_ n4_ n5_ n6_ n7_ n8_ n9_ n10_ n11_ n12_; clear hb hbox hg; have hnb26 := NB472_452.out; have hnc26 := NB452_472.out; have hnb27 := NB472_462.out; have hnc27 := NB462_472.out; have hcz28_0 : w25.cell? ⟨gb472, 0, none⟩ = some (.string (⟨#[]⟩ : ByteArray)) := (blk_cell BK472.out 0).trans rfl; have hcz28_1 : w25.cell? ⟨gb472, 1, none⟩ = some (.string (⟨#[]⟩ : ByteArray)) := (blk_cell BK472.out 1).trans rfl; have hfz28_0 := blk_frozen BK472.out 0; have hfz28_1 := blk_frozen BK472.out 1) | ((with_reducible refine gate_callee (f := 55) rfl ?_); refine goesL_ (some 38) rfl rfl Try.func55 (by kernel_rfl) rfl #[.agg #[.string ((rd_T45 l2 x33_2).f0), .string ((rd_T45 l2 x33_2).f1)]] rfl (by (try simp only [List.map_toArray, List.map_cons, List.map_nil]); first | done | rfl | (simp only [List.length_drop, List.length_take]; rfl)) ?_; (with_reducible refine (spec_l12Entry.calls ((rd_T45 l2 x33_2).f0) ((rd_T45 l2 x33_2).f1) true _ A20.out).mono ?_); rintro e w29 ⟨rfl, hb⟩; refine ⟨_, rfl, ?_⟩; have n0_ := Aside0.mk (Kd.R_below (by (with_reducible repeat (first | apply Kd.R_alloc | apply Kd.R_drewN | apply Kd.R_drew)); exact (Kd.R_mono (Kd.R_far (p := ⟨gb472, 1, none⟩) (Kd.R_far (p := ⟨gb472, 0, none⟩) (Kd.R_types HO_11.out BK472.out (by decide)) (fun _ hk => hk.2) (.string ((rd_T45 l2 x33_2).f0))) (fun _ hk => hk.2) (.string ((rd_T45 l2 x33_2).f1))) (fun _ h_ => h_.1))) hb); have n1_ := Aside0.mk (Kd.R_below (by (with_reducible repeat (first | apply Kd.R_alloc | apply Kd.R_drewN | apply Kd.R_drew)); exact (Kd.R_mono (Kd.R_far (p := ⟨gb472, 1, none⟩) (Kd.R_far (p := ⟨gb472, 0, none⟩) (Kd.R_mono HO_463002.out (fun k_ hk => (⟨hk, hk.2⟩ : _ ∧ k_ ≠ gb472))) (fun _ hk => hk.2) (.string ((rd_T45 l2 x33_2).f0))) (fun _ hk => hk.2) (.string ((rd_T45 l2 x33_2).f1))) (fun _ h_ => h_.1))) hb); have n2_ := Aside0.mk (Kd.R_below (by (with_reducible repeat (first | apply Kd.R_alloc | apply Kd.R_drewN | apply Kd.R_drew)); exact (Kd.R_mono (Kd.R_far (p := ⟨gb472, 1, none⟩) (Kd.R_far (p := ⟨gb472, 0, none⟩) (Kd.R_mono HO_463003.out (fun k_ hk => (⟨hk, hk.2⟩ : _ ∧ k_ ≠ gb472))) (fun _ hk => hk.2) (.string ((rd_T45 l2 x33_2).f0))) (fun _ hk => hk.2) (.string ((rd_T45 l2 x33_2).f1))) (fun _ h_ => h_.1))) hb); have n3_ := Aside0.mk (blk_below (g := gb452) (o := .cells #[.int .i64 x453000_2, .int .i64 x453001_2, .slice none 0 0, .slice none 0 0] 28 (0, 0)) (by (with_reducible repeat (first | refine blk_drewN ?_ _ | refine blk_drew ?_ | refine blk_alloc ?_ _)); refine blk_far ?_ NB452_472.out _; (with_reducible repeat (first | refine blk_drewN ?_ _ | refine blk_drew ?_ | refine blk_alloc ?_ _)); refine blk_far ?_ NB452_472.out _; exact bk BK452.out) hb); have n4_ := Aside0.mk (blk_below (g := gb462) (o := .cells #[.int .i64 x463000_2, .int .i64 x463001_2, u463002, u463003] 28 (0, 0)) (by (with_reducible repeat (first | refine blk_drewN ?_ _ | refine blk_drew ?_ | refine blk_alloc ?_ _)); refine blk_far ?_ NB462_472.out _; (with_reducible repeat (first | refine blk_drewN ?_ _ | refine blk_drew ?_ | refine blk_alloc ?_ _)); refine blk_far ?_ NB462_472.out _; exact bk BK462.out) hb); have n5_ := Aside0.mk (blk_below (g := gb472) (o := .cells #[.string ((rd_T45 l2 x33_2).f0), .string ((rd_T45 l2 x33_2).f1)] 45 (0, 0)) (by (with_reducible repeat (first | refine blk_drewN ?_ _ | refine blk_drew ?_ | refine blk_alloc ?_ _)); refine blk_put (cs := #[.string ((rd_T45 l2 x33_2).f0), .string (⟨#[]⟩ : ByteArray)]) ?_ 1 _ rfl; (with_reducible repeat (first | refine blk_drewN ?_ _ | refine blk_drew ?_ | refine blk_alloc ?_ _)); refine blk_put (cs := #[.string (⟨#[]⟩ : ByteArray), .string (⟨#[]⟩ : ByteArray)]) ?_ 0 _ rfl; exact bk BK472.out) hb); have n6_ := Aside0.mk (below_step (bl3 HB.out GE452.out GE462.out GE472.out) hb); clear HO_11; clear HO_463002; clear HO_463003; clear BK452; clear BK462; clear BK472; clear HB; have HO_11 := n0_; have HO_463002 := n1_; have HO_463003 := n2_; have BK452 := n3_; have BK462 := n4_; have BK472 := n5_; have HB := n6_; clear n0_ n1_ n2_ n3_ n4_ n5_ n6_; (try clear hb); (try clear hb2); (try clear hk); (try clear hi); have hcz30_0 : w29.cell? ⟨gb472, 0, none⟩ = some (.string ((rd_T45 l2 x33_2).f0)) := (blk_cell BK472.out 0).trans rfl; have hcz30_1 : w29.cell? ⟨gb472, 1, none⟩ = some (.string ((rd_T45 l2 x33_2).f1)) := (blk_cell BK472.out 1).trans rfl; have hfz30_0 := blk_frozen BK472.out 0; have hfz30_1 := blk_frozen BK472.out 1; have hnb31 := NB462_452.out; have hnc31 := NB452_462.out; have hcz32_0 : w29.cell? ⟨gb462, 0, none⟩ = some (.int .i64 x463000_2) := (blk_cell BK462.out 0).trans rfl; have hcz32_1 : w29.cell? ⟨gb462, 1, none⟩ = some (.int .i64 x463001_2) := (blk_cell BK462.out 1).trans rfl; have hcz32_2 : w29.cell? ⟨gb462, 2, none⟩ = some (u463002) := (blk_cell BK462.out 2).trans rfl; have hcz32_3 : w29.cell? ⟨gb462, 3, none⟩ = some (u463003) := (blk_cell BK462.out 3).trans rfl; have hfz32_0 := blk_frozen BK462.out 0; have hfz32_1 := blk_frozen BK462.out 1; have hfz32_2 := blk_frozen BK462.out 2; have hfz32_3 := blk_frozen BK462.out 3; obtain ⟨Ao33, co33, eo33⟩ := Kd.R_slice HO_463002.out; subst eo33; obtain ⟨Ao34, co34, eo34⟩ := Kd.R_slice HO_463003.out; subst eo34) | ((with_reducible refine gate_callee (f := 57) rfl ?_); refine goesL_ (some 54) rfl rfl Try.func57 (by kernel_rfl) rfl #[.agg #[.int .i64 x463000_2, .int .i64 x463001_2, .slice Ao33 x463002_2.length co33, .slice Ao34 x463003_2.length co34], .string ((rd_T45 l2 x33_2).f0)] rfl (by (try simp only [List.map_toArray, List.map_cons, List.map_nil]); first | done | rfl | (simp only [List.length_drop, List.length_take]; rfl)) ?_; (with_reducible refine (spec_l12Get.calls k2 x463000_2 x463001_2 (fun k_ => some k_ = (.slice Ao33 x463002_2.length co33 : Value).ownBlock) (.slice Ao33 x463002_2.length co33) x463002_2 (fun k_ => some k_ = (.slice Ao34 x463003_2.length co34 : Value).ownBlock) (.slice Ao34 x463003_2.length co34) x463003_2 ((rd_T45 l2 x33_2).f0) t474 t475 t476 t479 t482 t483 w _ ?side1 ?side2 ?side3 ?side4 ?side5 A23.out).mono ?_); (case side1 => exact bl3 HB.out GE452.out GE462.out GE472.out); (case side2 => exact Kd.R_tight rfl HO_463002.out); (case side3 => exact fun k_ e_ => (HO_463002.out.1 k_ e_.symm).1); (case side4 => exact Kd.R_tight rfl HO_463003.out); (case side5 => exact fun k_ e_ => (HO_463003.out.1 k_ e_.symm).1); rintro e w35 ⟨v477, v480, rfl, ho0, ho1, hb, hkp⟩; refine ⟨_, rfl, ?_⟩; have n0_ := Aside0.mk (Kd.R_mono (ok' := fun k_ => True) (Kd.R_keptB ((Kd.R_apart' (Kd.R_apart' HO_11.out (Kd.R_typed HO_463002.out) (by decide)) (Kd.R_typed HO_463003.out) (by decide))) hkp (fun k_ hk_ hs_ => Or.elim hs_ (fun e_ => (hk_.1.2) e_) (fun e_ => (hk_.2) e_))) (fun k_ hk_ => trivial)); have n1_ := Aside0.mk (blk_kept (bk BK452.out) hkp (fun hs_ => Or.elim hs_ (fun e_ => (fun e_ => (Kd.R_ne HO_463002.out BK452.out (by decide)) e_) e_) (fun e_ => (fun e_ => (Kd.R_ne HO_463003.out BK452.out (by decide)) e_) e_))); have n2_ := Aside0.mk (blk_kept (bk BK462.out) hkp (fun hs_ => Or.elim hs_ (fun e_ => (fun e_ => (Kd.R_ne HO_463002.out BK462.out (by decide)) e_) e_) (fun e_ => (fun e_ => (Kd.R_ne HO_463003.out BK462.out (by decide)) e_) e_))); have n3_ := Aside0.mk (blk_kept (bk BK472.out) hkp (fun hs_ => Or.elim hs_ (fun e_ => (fun e_ => (Kd.R_away HO_463002.out (fun _ hk => hk.2)) e_) e_) (fun e_ => (fun e_ => (Kd.R_away HO_463003.out (fun _ hk => hk.2)) e_) e_))); have n4_ := Aside0.mk (Kd.R_mono (ok' := fun k_ => some k_ ≠ (v480 : Value).ownBlock ∧ k_ ≠ gb472) ho0 (fun k_ hk_ => ⟨hk_.2, Or.elim hk_.1 (fun hs_ => Or.elim hs_ (fun hs_ => fun e_ => (Kd.R_away HO_463002.out (fun _ hk => hk.2)) (by rw [← e_]; exact hs_)) (fun hs_ => fun e_ => (Kd.R_away HO_463003.out (fun _ hk => hk.2)) (by rw [← e_]; exact hs_))) (fun hn_ => (Kd.freshB (bk BK472.out) k_ hn_))⟩)); have n5_ := Aside0.mk (Kd.R_mono (ok' := fun k_ => some k_ ≠ (v477 : Value).ownBlock ∧ k_ ≠ gb472) ho1 (fun k_ hk_ => ⟨hk_.2, Or.elim hk_.1 (fun hs_ => Or.elim hs_ (fun hs_ => fun e_ => (Kd.R_away HO_463002.out (fun _ hk => hk.2)) (by rw [← e_]; exact hs_)) (fun hs_ => fun e_ => (Kd.R_away HO_463003.out (fun _ hk => hk.2)) (by rw [← e_]; exact hs_))) (fun hn_ => (Kd.freshB (bk BK472.out) k_ hn_))⟩)); have n6_ := Aside0.mk (hb); clear HO_11; clear BK452; clear BK462; clear BK472; clear HB; clear HO_463002; clear HO_463003; have HO_11 := n0_; have BK452 := n1_; have BK462 := n2_; have BK472 := n3_; have HO478 := n4_; have HO481 := n5_; have HB := n6_; clear n0_ n1_ n2_ n3_ n4_ n5_ n6_; (try clear hb); (try clear hkp); (try clear ho0); (try clear ho1)) | ((with_reducible refine gate_dst (N := 14) rfl ?_); (try (refine gate_guard (by rfl) ?_; dsimp only)); refine box_event ?hg (N := 14) ?hd (cs := #[.int .i64 0, .int .i64 0, .slice none 0 0, .slice none 0 0]) (t := 28) ?hr ?_; (case hd => rfl); (case hg => rfl); (case hr => first | (go_simp; done) | (go_simp; rfl)); intro gb484 hg w36 hbox hb; have n0_ := Aside0.mk (Kd.R_below (kr HO_11.out) hb); have n1_ := Aside0.mk (Kd.R_below (kr HO478.out) hb); have n2_ := Aside0.mk (Kd.R_below (kr HO481.out) hb); have n3_ := Aside0.mk (blk_below (bk BK452.out) hb); have n4_ := Aside0.mk (blk_below (bk BK462.out) hb); have n5_ := Aside0.mk (blk_below (bk BK472.out) hb); have n6_ := Aside0.mk (below_step (bl3 HB.out GE452.out GE462.out GE472.out) hb); have n7_ := Aside0.mk (hbox); have n8_ := Aside0.mk ((by rw [hg]; exact (below_size (bl3 HB.out GE452.out GE462.out GE472.out)) : w.heap.size ≤ gb484)); have n9_ := Aside0.mk ((by rw [hg]; exact (below_size (bl3 HB.out GE452.out GE462.out GE472.out)) : w.heap.size ≤ gb484)); have n10_ := Aside0.mk ((by rw [hg]; exact Nat.ne_of_lt (blk_lt (bk BK452.out)) : gb452 ≠ gb484)); have n11_ := Aside0.mk ((by rw [hg]; exact Nat.ne_of_gt (blk_lt (bk BK452.out)) : gb484 ≠ gb452)); have n12_ := Aside0.mk ((by rw [hg]; exact Nat.ne_of_lt (blk_lt (bk BK462.out)) : gb462 ≠ gb484)); have n13_ := Aside0.mk ((by rw [hg]; exact Nat.ne_of_gt (blk_lt (bk BK462.out)) : gb484 ≠ gb462)); have n14_ := Aside0.mk ((by rw [hg]; exact Nat.ne_of_lt (blk_lt (bk BK472.out)) : gb472 ≠ gb484)); have n15_ := Aside0.mk ((by rw [hg]; exact Nat.ne_of_gt (blk_lt (bk BK472.out)) : gb484 ≠ gb472)); clear HO_11; clear HO478; clear HO481; clear BK452; clear BK462; clear BK472; clear HB; have HO_11 := n0_; have HO478 := n1_; have HO481 := n2_; have BK452 := n3_; have BK462 := n4_; have BK472 := n5_; have HB := n6_; have BK484 := n7_; have GW484 := n8_; have GE484 := n9_; have NB452_484 := n10_; have NB484_452 := n11_; have NB462_484 := n12_; have NB484_462 := n13_; have NB472_484 := n14_; have NB484_472 := n15_; clear n0_ n1_ n2_ n3_ n4_ n5_ n6_ n7_ n8_ n9_ n10_ n11_ n12_ n13_ n14_ n15_; clear hb hbox hg; have hnb37 := NB484_452.out; have hnc37 := NB452_484.out; have hnb38 := NB484_462.out; have hnc38 := NB462_484.out; have hnb39 := NB484_472.out; have hnc39 := NB472_484.out; have hcz40_0 : w36.cell? ⟨gb484, 0, none⟩ = some (.int .i64 0) := (blk_cell BK484.out 0).trans rfl; have hcz40_1 : w36.cell? ⟨gb484, 1, none⟩ = some (.int .i64 0) := (blk_cell BK484.out 1).trans rfl; have hcz40_2 : w36.cell? ⟨gb484, 2, none⟩ = some (.slice none 0 0) := (blk_cell BK484.out 2).trans rfl; have hcz40_3 : w36.cell? ⟨gb484, 3, none⟩ = some (.slice none 0 0) := (blk_cell BK484.out 3).trans rfl; have hfz40_0 := blk_frozen BK484.out 0; have hfz40_1 := blk_frozen BK484.out 1; have hfz40_2 := blk_frozen BK484.out 2; have hfz40_3 := blk_frozen BK484.out 3; obtain ⟨Ao41, co41, eo41⟩ := Kd.R_slice HO478.out; subst eo41; obtain ⟨Ao42, co42, eo42⟩ := Kd.R_slice HO481.out; subst eo42; have hcz43_0 : w36.cell? ⟨gb462, 0, none⟩ = some (.int .i64 x463000_2) := (blk_cell BK462.out 0).trans rfl; have hcz43_1 : w36.cell? ⟨gb462, 1, none⟩ = some (.int .i64 x463001_2) := (blk_cell BK462.out 1).trans rfl; have hcz43_2 : w36.cell? ⟨gb462, 2, none⟩ = some (.slice Ao33 x463002_2.length co33) := (blk_cell BK462.out 2).trans rfl; have hcz43_3 : w36.cell? ⟨gb462, 3, none⟩ = some (.slice Ao34 x463003_2.length co34) := (blk_cell BK462.out 3).trans rfl; have hfz43_0 := blk_frozen BK462.out 0; have hfz43_1 := blk_frozen BK462.out 1; have hfz43_2 := blk_frozen BK462.out 2; have hfz43_3 := blk_frozen BK462.out 3) | ((with_reducible refine gate_builtin (b := .append) (xs := #[.tmp 59, .tmp 61]) rfl ?_); (try (refine gate_guard (by rfl) ?_; dsimp only)); at_builtin; refine Kd.R_append Kd.string (w0 := w) w.heap.size rfl (.tmp 59) (.tmp 61) 38 9 (.string ⟨#[]⟩) 16 rfl Try.underlying38 info9 rfl (by decide) (by omega) u11 x11_2 t482 [.string t482] (fun _ => True) (fun _ => False) rfl (by first | (go_simp; done) | (go_simp; rfl)) ?aP (fun _ hk => hk.elim) ?aF ?aO ?aB ?aS ?aL ?_; (case aP => exact rfl); (case aB => exact (bl4 HB.out GE452.out GE462.out GE472.out GE484.out)); (case aF => exact (fun _ _ => trivial)); (case aO => exact (by (with_reducible repeat (first | apply Kd.R_alloc | apply Kd.R_drewN | apply Kd.R_drew)); exact Kd.R_mono (Kd.R_far (p := ⟨gb462, 3, none⟩) (Kd.R_far (p := ⟨gb462, 2, none⟩) (Kd.R_far (p := ⟨gb462, 1, none⟩) (Kd.R_far (p := ⟨gb462, 0, none⟩) (Kd.R_far (p := ⟨gb484, 3, none⟩) (Kd.R_far (p := ⟨gb484, 2, none⟩) (Kd.R_far (p := ⟨gb484, 1, none⟩) (Kd.R_far (p := ⟨gb484, 0, none⟩) (Kd.R_types (Kd.R_types HO_11.out BK484.out (by decide)) BK462.out (by decide)) (fun _ hk => hk.1.2) (.int .i64 t474)) (fun _ hk => hk.1.2) (.int .i64 t475)) (fun _ hk => hk.1.2) (.slice Ao41 t476.length co41)) (fun _ hk => hk.1.2) (.slice Ao42 t479.length co42)) (fun _ hk => hk.2) (.int .i64 t474)) (fun _ hk => hk.2) (.int .i64 t475)) (fun _ hk => hk.2) (.slice Ao41 t476.length co41)) (fun _ hk => hk.2) (.slice Ao42 t479.length co42)) (fun _ hk => trivial))); (case aS => exact (below_size (bl4 HB.out GE452.out GE462.out GE472.out GE484.out))); (case aL => have := LMc24.out; omega); intro v486 w44 ho hb hg hat; rw [← Ny485.out] at ho; have n0_ := Aside0.mk (blk_grown (g := gb452) (o := .cells #[.int .i64 x453000_2, .int .i64 x453001_2, .slice none 0 0, .slice none 0 0] 28 (0, 0)) (by (with_reducible repeat (first | refine blk_drewN ?_ _ | refine blk_drew ?_ | refine blk_alloc ?_ _)); refine blk_far ?_ NB452_462.out _; (with_reducible repeat (first | refine blk_drewN ?_ _ | refine blk_drew ?_ | refine blk_alloc ?_ _)); refine blk_far ?_ NB452_462.out _; (with_reducible repeat (first | refine blk_drewN ?_ _ | refine blk_drew ?_ | refine blk_alloc ?_ _)); refine blk_far ?_ NB452_462.out _; (with_reducible repeat (first | refine blk_drewN ?_ _ | refine blk_drew ?_ | refine blk_alloc ?_ _)); refine blk_far ?_ NB452_462.out _; (with_reducible repeat (first | refine blk_drewN ?_ _ | refine blk_drew ?_ | refine blk_alloc ?_ _)); refine blk_far ?_ NB452_484.out _; (with_reducible repeat (first | refine blk_drewN ?_ _ | refine blk_drew ?_ | refine blk_alloc ?_ _)); refine blk_far ?_ NB452_484.out _; (with_reducible repeat (first | refine blk_drewN ?_ _ | refine blk_drew ?_ | refine blk_alloc ?_ _)); refine blk_far ?_ NB452_484.out _; (with_reducible repeat (first | refine blk_drewN ?_ _ | refine blk_drew ?_ | refine blk_alloc ?_ _)); refine blk_far ?_ NB452_484.out _; exact bk BK452.out) hg (Kd.R_ne HO_11.out BK452.out (by decide))); have n1_ := Aside0.mk (blk_grown (g := gb462) (o := .cells #[.int .i64 t474, .int .i64 t475, .slice Ao41 t476.length co41, .slice Ao42 t479.length co42] 28 (0, 0)) (by (with_reducible repeat (first | refine blk_drewN ?_ _ | refine blk_drew ?_ | refine blk_alloc ?_ _)); refine blk_put (cs := #[.int .i64 t474, .int .i64 t475, .slice Ao41 t476.length co41, .slice Ao34 x463003_2.length co34]) ?_ 3 _ rfl; (with_reducible repeat (first | refine blk_drewN ?_ _ | refine blk_drew ?_ | refine blk_alloc ?_ _)); refine blk_put (cs := #[.int .i64 t474, .int .i64 t475, .slice Ao33 x463002_2.length co33, .slice Ao34 x463003_2.length co34]) ?_ 2 _ rfl; (with_reducible repeat (first | refine blk_drewN ?_ _ | refine blk_drew ?_ | refine blk_alloc ?_ _)); refine blk_put (cs := #[.int .i64 t474, .int .i64 x463001_2, .slice Ao33 x463002_2.length co33, .slice Ao34 x463003_2.length co34]) ?_ 1 _ rfl; (with_reducible repeat (first | refine blk_drewN ?_ _ | refine blk_drew ?_ | refine blk_alloc ?_ _)); refine blk_put (cs := #[.int .i64 x463000_2, .int .i64 x463001_2, .slice Ao33 x463002_2.length co33, .slice Ao34 x463003_2.length co34]) ?_ 0 _ rfl; (with_reducible repeat (first | refine blk_drewN ?_ _ | refine blk_drew ?_ | refine blk_alloc ?_ _)); refine blk_far ?_ NB462_484.out _; (with_reducible repeat (first | refine blk_drewN ?_ _ | refine blk_drew ?_ | refine blk_alloc ?_ _)); refine blk_far ?_ NB462_484.out _; (with_reducible repeat (first | refine blk_drewN ?_ _ | refine blk_drew ?_ | refine blk_alloc ?_ _)); refine blk_far ?_ NB462_484.out _; (with_reducible repeat (first | refine blk_drewN ?_ _ | refine blk_drew ?_ | refine blk_alloc ?_ _)); refine blk_far ?_ NB462_484.out _; exact bk BK462.out) hg (Kd.R_ne HO_11.out BK462.out (by decide))); have n2_ := Aside0.mk (blk_grown (g := gb472) (o := .cells #[.string ((rd_T45 l2 x33_2).f0), .string ((rd_T45 l2 x33_2).f1)] 45 (0, 0)) (by (with_reducible repeat (first | refine blk_drewN ?_ _ | refine blk_drew ?_ | refine blk_alloc ?_ _)); refine blk_far ?_ NB472_462.out _; (with_reducible repeat (first | refine blk_drewN ?_ _ | refine blk_drew ?_ | refine blk_alloc ?_ _)); refine blk_far ?_ NB472_462.out _; (with_reducible repeat (first | refine blk_drewN ?_ _ | refine blk_drew ?_ | refine blk_alloc ?_ _)); refine blk_far ?_ NB472_462.out _; (with_reducible repeat (first | refine blk_drewN ?_ _ | refine blk_drew ?_ | refine blk_alloc ?_ _)); refine blk_far ?_ NB472_462.out _; (with_reducible repeat (first | refine blk_drewN ?_ _ | refine blk_drew ?_ | refine blk_alloc ?_ _)); refine blk_far ?_ NB472_484.out _; (with_reducible repeat (first | refine blk_drewN ?_ _ | refine blk_drew ?_ | refine blk_alloc ?_ _)); refine blk_far ?_ NB472_484.out _; (with_reducible repeat (first | refine blk_drewN ?_ _ | refine blk_drew ?_ | refine blk_alloc ?_ _)); refine blk_far ?_ NB472_484.out _; (with_reducible repeat (first | refine blk_drewN ?_ _ | refine blk_drew ?_ | refine blk_alloc ?_ _)); refine blk_far ?_ NB472_484.out _; exact bk BK472.out) hg (Kd.R_ne HO_11.out BK472.out (by decide))); have n3_ := Aside0.mk (Kd.R_over' (by (with_reducible repeat (first | apply Kd.R_alloc | apply Kd.R_drewN | apply Kd.R_drew)); exact (Kd.R_mono (Kd.R_mono (Kd.R_far (p := ⟨gb462, 3, none⟩) (Kd.R_far (p := ⟨gb462, 2, none⟩) (Kd.R_far (p := ⟨gb462, 1, none⟩) (Kd.R_far (p := ⟨gb462, 0, none⟩) (Kd.R_far (p := ⟨gb484, 3, none⟩) (Kd.R_far (p := ⟨gb484, 2, none⟩) (Kd.R_far (p := ⟨gb484, 1, none⟩) (Kd.R_far (p := ⟨gb484, 0, none⟩) (Kd.R_types (Kd.R_types HO478.out BK484.out (by decide)) BK462.out (by decide)) (fun _ hk => hk.1.2) (.int .i64 t474)) (fun _ hk => hk.1.2) (.int .i64 t475)) (fun _ hk => hk.1.2) (.slice Ao41 t476.length co41)) (fun _ hk => hk.1.2) (.slice Ao42 t479.length co42)) (fun _ hk => hk.2) (.int .i64 t474)) (fun _ hk => hk.2) (.int .i64 t475)) (fun _ hk => hk.2) (.slice Ao41 t476.length co41)) (fun _ hk => hk.2) (.slice Ao42 t479.length co42)) (fun _ h_ => h_.1)) (fun _ h_ => h_.1))) (Kd.R_typed (by (with_reducible repeat (first | apply Kd.R_alloc | apply Kd.R_drewN | apply Kd.R_drew)); exact (Kd.R_mono (Kd.R_mono (Kd.R_far (p := ⟨gb462, 3, none⟩) (Kd.R_far (p := ⟨gb462, 2, none⟩) (Kd.R_far (p := ⟨gb462, 1, none⟩) (Kd.R_far (p := ⟨gb462, 0, none⟩) (Kd.R_far (p := ⟨gb484, 3, none⟩) (Kd.R_far (p := ⟨gb484, 2, none⟩) (Kd.R_far (p := ⟨gb484, 1, none⟩) (Kd.R_far (p := ⟨gb484, 0, none⟩) (Kd.R_types (Kd.R_types HO_11.out BK484.out (by decide)) BK462.out (by decide)) (fun _ hk => hk.1.2) (.int .i64 t474)) (fun _ hk => hk.1.2) (.int .i64 t475)) (fun _ hk => hk.1.2) (.slice Ao41 t476.length co41)) (fun _ hk => hk.1.2) (.slice Ao42 t479.length co42)) (fun _ hk => hk.2) (.int .i64 t474)) (fun _ hk => hk.2) (.int .i64 t475)) (fun _ hk => hk.2) (.slice Ao41 t476.length co41)) (fun _ hk => hk.2) (.slice Ao42 t479.length co42)) (fun _ h_ => h_.1)) (fun _ h_ => h_.1)))) (by decide) hg); have n4_ := Aside0.mk (Kd.R_over' (by (with_reducible repeat (first | apply Kd.R_alloc | apply Kd.R_drewN | apply Kd.R_drew)); exact (Kd.R_mono (Kd.R_mono (Kd.R_far (p := ⟨gb462, 3, none⟩) (Kd.R_far (p := ⟨gb462, 2, none⟩) (Kd.R_far (p := ⟨gb462, 1, none⟩) (Kd.R_far (p := ⟨gb462, 0, none⟩) (Kd.R_far (p := ⟨gb484, 3, none⟩) (Kd.R_far (p := ⟨gb484, 2, none⟩) (Kd.R_far (p := ⟨gb484, 1, none⟩) (Kd.R_far (p := ⟨gb484, 0, none⟩) (Kd.R_types (Kd.R_types HO481.out BK484.out (by decide)) BK462.out (by decide)) (fun _ hk => hk.1.2) (.int .i64 t474)) (fun _ hk => hk.1.2) (.int .i64 t475)) (fun _ hk => hk.1.2) (.slice Ao41 t476.length co41)) (fun _ hk => hk.1.2) (.slice Ao42 t479.length co42)) (fun _ hk => hk.2) (.int .i64 t474)) (fun _ hk => hk.2) (.int .i64 t475)) (fun _ hk => hk.2) (.slice Ao41 t476.length co41)) (fun _ hk => hk.2) (.slice Ao42 t479.length co42)) (fun _ h_ => h_.1)) (fun _ h_ => h_.1))) (Kd.R_typed (by (with_reducible repeat (first | apply Kd.R_alloc | apply Kd.R_drewN | apply Kd.R_drew)); exact (Kd.R_mono (Kd.R_mono (Kd.R_far (p := ⟨gb462, 3, none⟩) (Kd.R_far (p := ⟨gb462, 2, none⟩) (Kd.R_far (p := ⟨gb462, 1, none⟩) (Kd.R_far (p := ⟨gb462, 0, none⟩) (Kd.R_far (p := ⟨gb484, 3, none⟩) (Kd.R_far (p := ⟨gb484, 2, none⟩) (Kd.R_far (p := ⟨gb484, 1, none⟩) (Kd.R_far (p := ⟨gb484, 0, none⟩) (Kd.R_types (Kd.R_types HO_11.out BK484.out (by decide)) BK462.out (by decide)) (fun _ hk => hk.1.2) (.int .i64 t474)) (fun _ hk => hk.1.2) (.int .i64 t475)) (fun _ hk => hk.1.2) (.slice Ao41 t476.length co41)) (fun _ hk => hk.1.2) (.slice Ao42 t479.length co42)) (fun _ hk => hk.2) (.int .i64 t474)) (fun _ hk => hk.2) (.int .i64 t475)) (fun _ hk => hk.2) (.slice Ao41 t476.length co41)) (fun _ hk => hk.2) (.slice Ao42 t479.length co42)) (fun _ h_ => h_.1)) (fun _ h_ => h_.1)))) (by decide) hg); have n5_ := Aside0.mk (blk_grown (g := gb484) (o := .cells #[.int .i64 t474, .int .i64 t475, .slice Ao41 t476.length co41, .slice Ao42 t479.length co42] 28 (0, 0)) (by (with_reducible repeat (first | refine blk_drewN ?_ _ | refine blk_drew ?_ | refine blk_alloc ?_ _)); refine blk_far ?_ NB484_462.out _; (with_reducible repeat (first | refine blk_drewN ?_ _ | refine blk_drew ?_ | refine blk_alloc ?_ _)); refine blk_far ?_ NB484_462.out _; (with_reducible repeat (first | refine blk_drewN ?_ _ | refine blk_drew ?_ | refine blk_alloc ?_ _)); refine blk_far ?_ NB484_462.out _; (with_reducible repeat (first | refine blk_drewN ?_ _ | refine blk_drew ?_ | refine blk_alloc ?_ _)); refine blk_far ?_ NB484_462.out _; (with_reducible repeat (first | refine blk_drewN ?_ _ | refine blk_drew ?_ | refine blk_alloc ?_ _)); refine blk_put (cs := #[.int .i64 t474, .int .i64 t475, .slice Ao41 t476.length co41, .slice none 0 0]) ?_ 3 _ rfl; (with_reducible repeat (first | refine blk_drewN ?_ _ | refine blk_drew ?_ | refine blk_alloc ?_ _)); refine blk_put (cs := #[.int .i64 t474, .int .i64 t475, .slice none 0 0, .slice none 0 0]) ?_ 2 _ rfl; (with_reducible repeat (first | refine blk_drewN ?_ _ | refine blk_drew ?_ | refine blk_alloc ?_ _)); refine blk_put (cs := #[.int .i64 t474, .int .i64 0, .slice none 0 0, .slice none 0 0]) ?_ 1 _ rfl; (with_reducible repeat (first | refine blk_drewN ?_ _ | refine blk_drew ?_ | refine blk_alloc ?_ _)); refine blk_put (cs := #[.int .i64 0, .int .i64 0, .slice none 0 0, .slice none 0 0]) ?_ 0 _ rfl; exact bk BK484.out) hg (Kd.R_ne HO_11.out BK484.out (by decide))); have n6_ := Aside0.mk (hb); have n7_ := Aside0.mk (ho); clear BK452; clear BK462; clear BK472; clear HO478; clear HO481; clear BK484; clear HB; clear HO_11; have BK452 := n0_; have BK462 := n1_; have BK472 := n2_; have HO478 := n3_; have HO481 := n4_; have BK484 := n5_; have HB := n6_; have HO487 := n7_; clear n0_ n1_ n2_ n3_ n4_ n5_ n6_ n7_; clear ho hb hg hat))
            go_roundg k2
            case measure => have := HJ4.out; have := HK2.out; omega
            case rel => exact ⟨(y485), (wrap64 (x33_2 + 1)), (x453000_2), (x453001_2), (t474), (t475), (t476), (t479), (.slice Ao41 t476.length co41), (.slice Ao42 t479.length co42), (by first | rfl | (simp; done) | (simp [*]; done)), H', ⟨by have := HJ4.out; have := HK2.out; omega⟩, ⟨kr HO487.out⟩, ⟨by (with_reducible repeat (first | apply Kd.R_alloc | apply Kd.R_drewN | apply Kd.R_drew)); exact Kd.R_mono HO478.out (fun _ hk => hk.1)⟩, ⟨by (with_reducible repeat (first | apply Kd.R_alloc | apply Kd.R_drewN | apply Kd.R_drew)); exact Kd.R_mono HO481.out (fun _ hk => hk.1)⟩, ⟨bk BK452.out⟩, ⟨bk BK462.out⟩, ⟨bl4 HB.out GE452.out GE462.out GE472.out GE484.out⟩⟩
           ·rw [if_neg c24] at H
            exact absurd H (by simp)
          ·rw [if_neg c22] at H
           have c22b0 : (((rd_T45 l2 x33_2).f1).toList == ([] : List UInt8)) = false := beq_eq_false_iff_ne.mpr c22
           have c22b1 : (((rd_T45 l2 x33_2).f1).toList != ([] : List UInt8)) = true := bne_iff_ne.mpr c22
           replace H := Option.bind_eq_some_iff.mp H
           obtain ⟨⟨t488, t489, t490, t493, t496⟩, A450, H⟩ := H
           try dsimp only at H
           have A45 := Aside0.mk A450
           clear A450
           have H' := Aside0.mk H
           clear H
           have p471 : 0 ≤ (x33_2 : Int) := of_decide_eq_true (by first | (with_reducible assumption) | assumption)
           have q471 : x33_2 < (l2.length : Int) := of_decide_eq_true (by first | (with_reducible assumption) | assumption)
           obtain ⟨ad471, e471, hx471_0, hx471_1⟩ := at_T45 HR2.out x33_2 p471 q471
           cases e471
           replace hx471_0 := (HB.out.cell (World.block_lt_of_cell? w _ hx471_0)).trans hx471_0
           replace hx471_1 := (HB.out.cell (World.block_lt_of_cell? w _ hx471_1)).trans hx471_1
           replace p471 := eq_true p471
           replace q471 := eq_true q471
           go_wp2_with (first | ((with_reducible refine gate_dst (N := 13) rfl ?_); (try (refine gate_guard (by rfl) ?_; dsimp only)); refine box_event ?hg (N := 13) ?hd (cs := #[.string (⟨#[]⟩ : ByteArray), .string (⟨#[]⟩ : ByteArray)]) (t := 45) ?hr ?_; (case hd => rfl); (case hg => rfl); (case hr => first | (go_simp; done) | (go_simp; rfl)); intro gb472 hg w46 hbox hb; have n0_ := Aside0.mk (Kd.R_below (kr HO_11.out) hb); have n1_ := Aside0.mk (Kd.R_below (Kd.R_elderB (kr HO_463002.out) gb472 (Nat.le_of_eq hg.symm)) hb); have n2_ := Aside0.mk (Kd.R_below (Kd.R_elderB (kr HO_463003.out) gb472 (Nat.le_of_eq hg.symm)) hb); have n3_ := Aside0.mk (blk_below (bk BK452.out) hb); have n4_ := Aside0.mk (blk_below (bk BK462.out) hb); have n5_ := Aside0.mk (below_step (bl2 HB.out GE452.out GE462.out) hb); have n6_ := Aside0.mk (hbox); have n7_ := Aside0.mk ((by rw [hg]; exact (below_size (bl2 HB.out GE452.out GE462.out)) : w.heap.size ≤ gb472)); have n8_ := Aside0.mk ((by rw [hg]; exact (below_size (bl2 HB.out GE452.out GE462.out)) : w.heap.size ≤ gb472)); have n9_ := Aside0.mk ((by rw [hg]; exact Nat.ne_of_lt (blk_lt (bk BK452.out)) : gb452 ≠ gb472)); have n10_ := Aside0.mk ((by rw [hg]; exact Nat.ne_of_gt (blk_lt (bk BK452.out)) : gb472 ≠ gb452)); have n11_ := Aside0.mk ((by rw [hg]; exact Nat.ne_of_lt (blk_lt (bk BK462.out)) : gb462 ≠ gb472)); have n12_ := Aside0.mk ((by rw [hg]; exact Nat.ne_of_gt (blk_lt (bk BK462.out)) : gb472 ≠ gb462)); clear HO_11; clear HO_463002; clear HO_463003; clear BK452; clear BK462; clear HB; have HO_11 := n0_; have HO_463002 := n1_; have HO_463003 := n2_; have BK452 := n3_; have BK462 := n4_; have HB := n5_; have BK472 := n6_; have GW472 := n7_; have GE472 := n8_; have NB452_472 := n9_; have NB472_452 := n10_; have NB462_472 := n11_; have NB472_462 := n12_; clear n0_ n1_ n2_ n3_ n4_ n5_ n6_ n7_ n8_ n9_ n10_ n11_ n12_; clear hb hbox hg; have hnb47 := NB472_452.out; have hnc47 := NB452_472.out; have hnb48 := NB472_462.out; have hnc48 := NB462_472.out; have hcz49_0 : w46.cell? ⟨gb472, 0, none⟩ = some (.string (⟨#[]⟩ : ByteArray)) := (blk_cell BK472.out 0).trans rfl; have hcz49_1 : w46.cell? ⟨gb472, 1, none⟩ = some (.string (⟨#[]⟩ : ByteArray)) := (blk_cell BK472.out 1).trans rfl; have hfz49_0 := blk_frozen BK472.out 0; have hfz49_1 := blk_frozen BK472.out 1) | ((with_reducible refine gate_callee (f := 55) rfl ?_); refine goesL_ (some 38) rfl rfl Try.func55 (by kernel_rfl) rfl #[.agg #[.string ((rd_T45 l2 x33_2).f0), .string ((rd_T45 l2 x33_2).f1)]] rfl (by (try simp only [List.map_toArray, List.map_cons, List.map_nil]); first | done | rfl | (simp only [List.length_drop, List.length_take]; rfl)) ?_; (with_reducible refine (spec_l12Entry.calls ((rd_T45 l2 x33_2).f0) ((rd_T45 l2 x33_2).f1) true _ A20.out).mono ?_); rintro e w50 ⟨rfl, hb⟩; refine ⟨_, rfl, ?_⟩; have n0_ := Aside0.mk (Kd.R_below (by (with_reducible repeat (first | apply Kd.R_alloc | apply Kd.R_drewN | apply Kd.R_drew)); exact (Kd.R_mono (Kd.R_far (p := ⟨gb472, 1, none⟩) (Kd.R_far (p := ⟨gb472, 0, none⟩) (Kd.R_types HO_11.out BK472.out (by decide)) (fun _ hk => hk.2) (.string ((rd_T45 l2 x33_2).f0))) (fun _ hk => hk.2) (.string ((rd_T45 l2 x33_2).f1))) (fun _ h_ => h_.1))) hb); have n1_ := Aside0.mk (Kd.R_below (by (with_reducible repeat (first | apply Kd.R_alloc | apply Kd.R_drewN | apply Kd.R_drew)); exact (Kd.R_mono (Kd.R_far (p := ⟨gb472, 1, none⟩) (Kd.R_far (p := ⟨gb472, 0, none⟩) (Kd.R_mono HO_463002.out (fun k_ hk => (⟨hk, hk.2⟩ : _ ∧ k_ ≠ gb472))) (fun _ hk => hk.2) (.string ((rd_T45 l2 x33_2).f0))) (fun _ hk => hk.2) (.string ((rd_T45 l2 x33_2).f1))) (fun _ h_ => h_.1))) hb); have n2_ := Aside0.mk (Kd.R_below (by (with_reducible repeat (first | apply Kd.R_alloc | apply Kd.R_drewN | apply Kd.R_drew)); exact (Kd.R_mono (Kd.R_far (p := ⟨gb472, 1, none⟩) (Kd.R_far (p := ⟨gb472, 0, none⟩) (Kd.R_mono HO_463003.out (fun k_ hk => (⟨hk, hk.2⟩ : _ ∧ k_ ≠ gb472))) (fun _ hk => hk.2) (.string ((rd_T45 l2 x33_2).f0))) (fun _ hk => hk.2) (.string ((rd_T45 l2 x33_2).f1))) (fun _ h_ => h_.1))) hb); have n3_ := Aside0.mk (blk_below (g := gb452) (o := .cells #[.int .i64 x453000_2, .int .i64 x453001_2, .slice none 0 0, .slice none 0 0] 28 (0, 0)) (by (with_reducible repeat (first | refine blk_drewN ?_ _ | refine blk_drew ?_ | refine blk_alloc ?_ _)); refine blk_far ?_ NB452_472.out _; (with_reducible repeat (first | refine blk_drewN ?_ _ | refine blk_drew ?_ | refine blk_alloc ?_ _)); refine blk_far ?_ NB452_472.out _; exact bk BK452.out) hb); have n4_ := Aside0.mk (blk_below (g := gb462) (o := .cells #[.int .i64 x463000_2, .int .i64 x463001_2, u463002, u463003] 28 (0, 0)) (by (with_reducible repeat (first | refine blk_drewN ?_ _ | refine blk_drew ?_ | refine blk_alloc ?_ _)); refine blk_far ?_ NB462_472.out _; (with_reducible repeat (first | refine blk_drewN ?_ _ | refine blk_drew ?_ | refine blk_alloc ?_ _)); refine blk_far ?_ NB462_472.out _; exact bk BK462.out) hb); have n5_ := Aside0.mk (blk_below (g := gb472) (o := .cells #[.string ((rd_T45 l2 x33_2).f0), .string ((rd_T45 l2 x33_2).f1)] 45 (0, 0)) (by (with_reducible repeat (first | refine blk_drewN ?_ _ | refine blk_drew ?_ | refine blk_alloc ?_ _)); refine blk_put (cs := #[.string ((rd_T45 l2 x33_2).f0), .string (⟨#[]⟩ : ByteArray)]) ?_ 1 _ rfl; (with_reducible repeat (first | refine blk_drewN ?_ _ | refine blk_drew ?_ | refine blk_alloc ?_ _)); refine blk_put (cs := #[.string (⟨#[]⟩ : ByteArray), .string (⟨#[]⟩ : ByteArray)]) ?_ 0 _ rfl; exact bk BK472.out) hb); have n6_ := Aside0.mk (below_step (bl3 HB.out GE452.out GE462.out GE472.out) hb); clear HO_11; clear HO_463002; clear HO_463003; clear BK452; clear BK462; clear BK472; clear HB; have HO_11 := n0_; have HO_463002 := n1_; have HO_463003 := n2_; have BK452 := n3_; have BK462 := n4_; have BK472 := n5_; have HB := n6_; clear n0_ n1_ n2_ n3_ n4_ n5_ n6_; (try clear hb); (try clear hb2); (try clear hk); (try clear hi); have hcz51_0 : w50.cell? ⟨gb472, 0, none⟩ = some (.string ((rd_T45 l2 x33_2).f0)) := (blk_cell BK472.out 0).trans rfl; have hcz51_1 : w50.cell? ⟨gb472, 1, none⟩ = some (.string ((rd_T45 l2 x33_2).f1)) := (blk_cell BK472.out 1).trans rfl; have hfz51_0 := blk_frozen BK472.out 0; have hfz51_1 := blk_frozen BK472.out 1; have hnb52 := NB462_452.out; have hnc52 := NB452_462.out; have hcz53_0 : w50.cell? ⟨gb462, 0, none⟩ = some (.int .i64 x463000_2) := (blk_cell BK462.out 0).trans rfl; have hcz53_1 : w50.cell? ⟨gb462, 1, none⟩ = some (.int .i64 x463001_2) := (blk_cell BK462.out 1).trans rfl; have hcz53_2 : w50.cell? ⟨gb462, 2, none⟩ = some (u463002) := (blk_cell BK462.out 2).trans rfl; have hcz53_3 : w50.cell? ⟨gb462, 3, none⟩ = some (u463003) := (blk_cell BK462.out 3).trans rfl; have hfz53_0 := blk_frozen BK462.out 0; have hfz53_1 := blk_frozen BK462.out 1; have hfz53_2 := blk_frozen BK462.out 2; have hfz53_3 := blk_frozen BK462.out 3; obtain ⟨Ao54, co54, eo54⟩ := Kd.R_slice HO_463002.out; subst eo54; obtain ⟨Ao55, co55, eo55⟩ := Kd.R_slice HO_463003.out; subst eo55) | ((with_reducible refine gate_callee (f := 56) rfl ?_); refine goesL_ (some 47) rfl rfl Try.func56 (by kernel_rfl) rfl #[.agg #[.int .i64 x463000_2, .int .i64 x463001_2, .slice Ao54 x463002_2.length co54, .slice Ao55 x463003_2.length co55], .agg #[.string ((rd_T45 l2 x33_2).f0), .string ((rd_T45 l2 x33_2).f1)]] rfl (by (try simp only [List.map_toArray, List.map_cons, List.map_nil]); first | done | rfl | (simp only [List.length_drop, List.length_take]; rfl)) ?_; (with_reducible refine (spec_l12Put.calls k2 x463000_2 x463001_2 _ _ x463002_2 _ _ x463003_2 ((rd_T45 l2 x33_2).f0) ((rd_T45 l2 x33_2).f1) t488 t489 t490 t493 t496 _ ?side1 ?side2 ?side3 ?side4 A45.out).mono ?_); (case side1 => exact kc (Kd.R_reads' HO_463002.out).2.2); (case side2 => exact (Kd.R_reads' HO_463002.out).2.1); (case side3 => exact kc (Kd.R_reads' HO_463003.out).2.2); (case side4 => exact (Kd.R_reads' HO_463003.out).2.1); rintro e w56 ⟨v491, v494, v497, rfl, ho0, ho1, ho2, hb⟩; refine ⟨_, rfl, ?_⟩; have n0_ := Aside0.mk (Kd.R_below (kr HO_11.out) hb); have n1_ := Aside0.mk (Kd.R_mono (Kd.R_told (Kd.R_told (Kd.R_told (Kd.R_old (kr HO_463002.out) hb) (Kd.R_base ho0)) (Kd.R_base ho1)) (Kd.R_base ho2)) (fun _ h_ => h_.1)); have n2_ := Aside0.mk (Kd.R_mono (Kd.R_told (Kd.R_told (Kd.R_told (Kd.R_old (kr HO_463003.out) hb) (Kd.R_base ho0)) (Kd.R_base ho1)) (Kd.R_base ho2)) (fun _ h_ => h_.1)); have n3_ := Aside0.mk (Kd.R_lower (Kd.R_newB (Kd.R_new' (Kd.R_new' ho0 (Kd.R_lt (kr HO_463002.out))) (Kd.R_lt (kr HO_463003.out))) (bk BK472.out)) (below_size (bl3 HB.out GE452.out GE462.out GE472.out))); have n4_ := Aside0.mk (Kd.R_lower (Kd.R_newB (Kd.R_new' (Kd.R_new' ho1 (Kd.R_lt (kr HO_463002.out))) (Kd.R_lt (kr HO_463003.out))) (bk BK472.out)) (below_size (bl3 HB.out GE452.out GE462.out GE472.out))); have n5_ := Aside0.mk (Kd.R_lower (Kd.R_newB (Kd.R_new' (Kd.R_new' ho2 (Kd.R_lt (kr HO_463002.out))) (Kd.R_lt (kr HO_463003.out))) (bk BK472.out)) (below_size (bl3 HB.out GE452.out GE462.out GE472.out))); have n6_ := Aside0.mk (blk_below (bk BK452.out) hb); have n7_ := Aside0.mk (blk_below (bk BK462.out) hb); have n8_ := Aside0.mk (blk_below (bk BK472.out) hb); have n9_ := Aside0.mk (below_step (bl3 HB.out GE452.out GE462.out GE472.out) hb); clear HO_11; clear HO_463002; clear HO_463003; clear BK452; clear BK462; clear BK472; clear HB; have HO_11 := n0_; have HO_463002 := n1_; have HO_463003 := n2_; have HO492 := n3_; have HO495 := n4_; have HO498 := n5_; have BK452 := n6_; have BK462 := n7_; have BK472 := n8_; have HB := n9_; clear n0_ n1_ n2_ n3_ n4_ n5_ n6_ n7_ n8_ n9_; (try clear hb); (try clear hb2); (try clear hk); (try clear hi); (try clear ho0); (try clear ho1); (try clear ho2); have hcz57_0 : w56.cell? ⟨gb462, 0, none⟩ = some (.int .i64 x463000_2) := (blk_cell BK462.out 0).trans rfl; have hcz57_1 : w56.cell? ⟨gb462, 1, none⟩ = some (.int .i64 x463001_2) := (blk_cell BK462.out 1).trans rfl; have hcz57_2 : w56.cell? ⟨gb462, 2, none⟩ = some (.slice Ao54 x463002_2.length co54) := (blk_cell BK462.out 2).trans rfl; have hcz57_3 : w56.cell? ⟨gb462, 3, none⟩ = some (.slice Ao55 x463003_2.length co55) := (blk_cell BK462.out 3).trans rfl; have hfz57_0 := blk_frozen BK462.out 0; have hfz57_1 := blk_frozen BK462.out 1; have hfz57_2 := blk_frozen BK462.out 2; have hfz57_3 := blk_frozen BK462.out 3; obtain ⟨Ao58, co58, eo58⟩ := Kd.R_slice HO492.out; subst eo58; obtain ⟨Ao59, co59, eo59⟩ := Kd.R_slice HO495.out; subst eo59))
           go_roundg k2
           case measure => have := HJ4.out; have := HK2.out; omega
           case rel => exact ⟨(x11_2), (wrap64 (x33_2 + 1)), (x453000_2), (x453001_2), (t488), (t489), (t490), (t493), (.slice Ao58 t490.length co58), (.slice Ao59 t493.length co59), (by first | rfl | (simp; done) | (simp [*]; done)), H', ⟨by have := HJ4.out; have := HK2.out; omega⟩, ⟨by (with_reducible repeat (first | apply Kd.R_alloc | apply Kd.R_drewN | apply Kd.R_drew)); exact Kd.R_mono (Kd.R_far (p := ⟨gb462, 3, none⟩) (Kd.R_far (p := ⟨gb462, 2, none⟩) (Kd.R_far (p := ⟨gb462, 1, none⟩) (Kd.R_far (p := ⟨gb462, 0, none⟩) (Kd.R_types HO_11.out BK462.out (by decide)) (fun _ hk => hk.2) (.int .i64 t488)) (fun _ hk => hk.2) (.int .i64 t489)) (fun _ hk => hk.2) (.slice Ao58 t490.length co58)) (fun _ hk => hk.2) (.slice Ao59 t493.length co59)) (fun _ hk => trivial)⟩, ⟨by (with_reducible repeat (first | apply Kd.R_alloc | apply Kd.R_drewN | apply Kd.R_drew)); exact Kd.R_mono (Kd.R_far (p := ⟨gb462, 3, none⟩) (Kd.R_far (p := ⟨gb462, 2, none⟩) (Kd.R_far (p := ⟨gb462, 1, none⟩) (Kd.R_far (p := ⟨gb462, 0, none⟩) (Kd.R_types HO492.out BK462.out (by decide)) (fun _ hk => hk.2) (.int .i64 t488)) (fun _ hk => hk.2) (.int .i64 t489)) (fun _ hk => hk.2) (.slice Ao58 t490.length co58)) (fun _ hk => hk.2) (.slice Ao59 t493.length co59)) (fun _ hk => hk.1.1.1.1.1)⟩, ⟨by (with_reducible repeat (first | apply Kd.R_alloc | apply Kd.R_drewN | apply Kd.R_drew)); exact Kd.R_mono (Kd.R_far (p := ⟨gb462, 3, none⟩) (Kd.R_far (p := ⟨gb462, 2, none⟩) (Kd.R_far (p := ⟨gb462, 1, none⟩) (Kd.R_far (p := ⟨gb462, 0, none⟩) (Kd.R_types HO495.out BK462.out (by decide)) (fun _ hk => hk.2) (.int .i64 t488)) (fun _ hk => hk.2) (.int .i64 t489)) (fun _ hk => hk.2) (.slice Ao58 t490.length co58)) (fun _ hk => hk.2) (.slice Ao59 t493.length co59)) (fun _ hk => hk.1.1.1.1.1)⟩, ⟨by (with_reducible repeat (first | refine blk_drewN ?_ _ | refine blk_drew ?_ | refine blk_alloc ?_ _)); refine blk_far ?_ NB452_462.out _; (with_reducible repeat (first | refine blk_drewN ?_ _ | refine blk_drew ?_ | refine blk_alloc ?_ _)); refine blk_far ?_ NB452_462.out _; (with_reducible repeat (first | refine blk_drewN ?_ _ | refine blk_drew ?_ | refine blk_alloc ?_ _)); refine blk_far ?_ NB452_462.out _; (with_reducible repeat (first | refine blk_drewN ?_ _ | refine blk_drew ?_ | refine blk_alloc ?_ _)); refine blk_far ?_ NB452_462.out _; exact bk BK452.out⟩, ⟨by (with_reducible repeat (first | refine blk_drewN ?_ _ | refine blk_drew ?_ | refine blk_alloc ?_ _)); refine blk_put (cs := #[.int .i64 t488, .int .i64 t489, .slice Ao58 t490.length co58, .slice Ao55 x463003_2.length co55]) ?_ 3 _ rfl; (with_reducible repeat (first | refine blk_drewN ?_ _ | refine blk_drew ?_ | refine blk_alloc ?_ _)); refine blk_put (cs := #[.int .i64 t488, .int .i64 t489, .slice Ao54 x463002_2.length co54, .slice Ao55 x463003_2.length co55]) ?_ 2 _ rfl; (with_reducible repeat (first | refine blk_drewN ?_ _ | refine blk_drew ?_ | refine blk_alloc ?_ _)); refine blk_put (cs := #[.int .i64 t488, .int .i64 x463001_2, .slice Ao54 x463002_2.length co54, .slice Ao55 x463003_2.length co55]) ?_ 1 _ rfl; (with_reducible repeat (first | refine blk_drewN ?_ _ | refine blk_drew ?_ | refine blk_alloc ?_ _)); refine blk_put (cs := #[.int .i64 x463000_2, .int .i64 x463001_2, .slice Ao54 x463002_2.length co54, .slice Ao55 x463003_2.length co55]) ?_ 0 _ rfl; exact bk BK462.out⟩, ⟨bl3 HB.out GE452.out GE462.out GE472.out⟩⟩
         ·replace c21 := Bool.eq_false_iff.mpr c21
          subst c21
          have H1 : (some (0, 0, ([] : List (S45)), ([] : List (S45)), ([] : List ByteArray), false)) = some (r1, r2, r3, r4, r5, r6) := by rw [if_neg (show ¬ (false = true) by decide)] at H; exact H
          clear H
          have H := H1
          clear H1
          simp only [Option.some.injEq, Prod.mk.injEq] at H
          obtain ⟨rfl, rfl, rfl, rfl, rfl, rfl⟩ := H
          have p471 : 0 ≤ (x33_2 : Int) := of_decide_eq_true (by first | (with_reducible assumption) | assumption)
          have q471 : x33_2 < (l2.length : Int) := of_decide_eq_true (by first | (with_reducible assumption) | assumption)
          obtain ⟨ad471, e471, hx471_0, hx471_1⟩ := at_T45 HR2.out x33_2 p471 q471
          cases e471
          replace hx471_0 := (HB.out.cell (World.block_lt_of_cell? w _ hx471_0)).trans hx471_0
          replace hx471_1 := (HB.out.cell (World.block_lt_of_cell? w _ hx471_1)).trans hx471_1
          replace p471 := eq_true p471
          replace q471 := eq_true q471
          go_wp2_with (first | ((with_reducible refine gate_dst (N := 13) rfl ?_); (try (refine gate_guard (by rfl) ?_; dsimp only)); refine box_event ?hg (N := 13) ?hd (cs := #[.string (⟨#[]⟩ : ByteArray), .string (⟨#[]⟩ : ByteArray)]) (t := 45) ?hr ?_; (case hd => rfl); (case hg => rfl); (case hr => first | (go_simp; done) | (go_simp; rfl)); intro gb472 hg w60 hbox hb; have n0_ := Aside0.mk (Kd.R_below (kr HO_11.out) hb); have n1_ := Aside0.mk (Kd.R_below (Kd.R_elderB (kr HO_463002.out) gb472 (Nat.le_of_eq hg.symm)) hb); have n2_ := Aside0.mk (Kd.R_below (Kd.R_elderB (kr HO_463003.out) gb472 (Nat.le_of_eq hg.symm)) hb); have n3_ := Aside0.mk (blk_below (bk BK452.out) hb); have n4_ := Aside0.mk (blk_below (bk BK462.out) hb); have n5_ := Aside0.mk (below_step (bl2 HB.out GE452.out GE462.out) hb); have n6_ := Aside0.mk (hbox); have n7_ := Aside0.mk ((by rw [hg]; exact (below_size (bl2 HB.out GE452.out GE462.out)) : w.heap.size ≤ gb472)); have n8_ := Aside0.mk ((by rw [hg]; exact (below_size (bl2 HB.out GE452.out GE462.out)) : w.heap.size ≤ gb472)); have n9_ := Aside0.mk ((by rw [hg]; exact Nat.ne_of_lt (blk_lt (bk BK452.out)) : gb452 ≠ gb472)); have n10_ := Aside0.mk ((by rw [hg]; exact Nat.ne_of_gt (blk_lt (bk BK452.out)) : gb472 ≠ gb452)); have n11_ := Aside0.mk ((by rw [hg]; exact Nat.ne_of_lt (blk_lt (bk BK462.out)) : gb462 ≠ gb472)); have n12_ := Aside0.mk ((by rw [hg]; exact Nat.ne_of_gt (blk_lt (bk BK462.out)) : gb472 ≠ gb462)); clear HO_11; clear HO_463002; clear HO_463003; clear BK452; clear BK462; clear HB; have HO_11 := n0_; have HO_463002 := n1_; have HO_463003 := n2_; have BK452 := n3_; have BK462 := n4_; have HB := n5_; have BK472 := n6_; have GW472 := n7_; have GE472 := n8_; have NB452_472 := n9_; have NB472_452 := n10_; have NB462_472 := n11_; have NB472_462 := n12_; clear n0_ n1_ n2_ n3_ n4_ n5_ n6_ n7_ n8_ n9_ n10_ n11_ n12_; clear hb hbox hg; have hnb61 := NB472_452.out; have hnc61 := NB452_472.out; have hnb62 := NB472_462.out; have hnc62 := NB462_472.out; have hcz63_0 : w60.cell? ⟨gb472, 0, none⟩ = some (.string (⟨#[]⟩ : ByteArray)) := (blk_cell BK472.out 0).trans rfl; have hcz63_1 : w60.cell? ⟨gb472, 1, none⟩ = some (.string (⟨#[]⟩ : ByteArray)) := (blk_cell BK472.out 1).trans rfl; have hfz63_0 := blk_frozen BK472.out 0; have hfz63_1 := blk_frozen BK472.out 1) | ((with_reducible refine gate_callee (f := 55) rfl ?_); refine goesL_ (some 38) rfl rfl Try.func55 (by kernel_rfl) rfl #[.agg #[.string ((rd_T45 l2 x33_2).f0), .string ((rd_T45 l2 x33_2).f1)]] rfl (by (try simp only [List.map_toArray, List.map_cons, List.map_nil]); first | done | rfl | (simp only [List.length_drop, List.length_take]; rfl)) ?_; (with_reducible refine (spec_l12Entry.calls ((rd_T45 l2 x33_2).f0) ((rd_T45 l2 x33_2).f1) false _ A20.out).mono ?_); rintro e w64 ⟨rfl, hb⟩; refine ⟨_, rfl, ?_⟩; have n0_ := Aside0.mk (Kd.R_below (by (with_reducible repeat (first | apply Kd.R_alloc | apply Kd.R_drewN | apply Kd.R_drew)); exact (Kd.R_mono (Kd.R_far (p := ⟨gb472, 1, none⟩) (Kd.R_far (p := ⟨gb472, 0, none⟩) (Kd.R_types HO_11.out BK472.out (by decide)) (fun _ hk => hk.2) (.string ((rd_T45 l2 x33_2).f0))) (fun _ hk => hk.2) (.string ((rd_T45 l2 x33_2).f1))) (fun _ h_ => h_.1))) hb); have n1_ := Aside0.mk (Kd.R_below (by (with_reducible repeat (first | apply Kd.R_alloc | apply Kd.R_drewN | apply Kd.R_drew)); exact (Kd.R_mono (Kd.R_far (p := ⟨gb472, 1, none⟩) (Kd.R_far (p := ⟨gb472, 0, none⟩) (Kd.R_mono HO_463002.out (fun k_ hk => (⟨hk, hk.2⟩ : _ ∧ k_ ≠ gb472))) (fun _ hk => hk.2) (.string ((rd_T45 l2 x33_2).f0))) (fun _ hk => hk.2) (.string ((rd_T45 l2 x33_2).f1))) (fun _ h_ => h_.1))) hb); have n2_ := Aside0.mk (Kd.R_below (by (with_reducible repeat (first | apply Kd.R_alloc | apply Kd.R_drewN | apply Kd.R_drew)); exact (Kd.R_mono (Kd.R_far (p := ⟨gb472, 1, none⟩) (Kd.R_far (p := ⟨gb472, 0, none⟩) (Kd.R_mono HO_463003.out (fun k_ hk => (⟨hk, hk.2⟩ : _ ∧ k_ ≠ gb472))) (fun _ hk => hk.2) (.string ((rd_T45 l2 x33_2).f0))) (fun _ hk => hk.2) (.string ((rd_T45 l2 x33_2).f1))) (fun _ h_ => h_.1))) hb); have n3_ := Aside0.mk (blk_below (g := gb452) (o := .cells #[.int .i64 x453000_2, .int .i64 x453001_2, .slice none 0 0, .slice none 0 0] 28 (0, 0)) (by (with_reducible repeat (first | refine blk_drewN ?_ _ | refine blk_drew ?_ | refine blk_alloc ?_ _)); refine blk_far ?_ NB452_472.out _; (with_reducible repeat (first | refine blk_drewN ?_ _ | refine blk_drew ?_ | refine blk_alloc ?_ _)); refine blk_far ?_ NB452_472.out _; exact bk BK452.out) hb); have n4_ := Aside0.mk (blk_below (g := gb462) (o := .cells #[.int .i64 x463000_2, .int .i64 x463001_2, u463002, u463003] 28 (0, 0)) (by (with_reducible repeat (first | refine blk_drewN ?_ _ | refine blk_drew ?_ | refine blk_alloc ?_ _)); refine blk_far ?_ NB462_472.out _; (with_reducible repeat (first | refine blk_drewN ?_ _ | refine blk_drew ?_ | refine blk_alloc ?_ _)); refine blk_far ?_ NB462_472.out _; exact bk BK462.out) hb); have n5_ := Aside0.mk (blk_below (g := gb472) (o := .cells #[.string ((rd_T45 l2 x33_2).f0), .string ((rd_T45 l2 x33_2).f1)] 45 (0, 0)) (by (with_reducible repeat (first | refine blk_drewN ?_ _ | refine blk_drew ?_ | refine blk_alloc ?_ _)); refine blk_put (cs := #[.string ((rd_T45 l2 x33_2).f0), .string (⟨#[]⟩ : ByteArray)]) ?_ 1 _ rfl; (with_reducible repeat (first | refine blk_drewN ?_ _ | refine blk_drew ?_ | refine blk_alloc ?_ _)); refine blk_put (cs := #[.string (⟨#[]⟩ : ByteArray), .string (⟨#[]⟩ : ByteArray)]) ?_ 0 _ rfl; exact bk BK472.out) hb); have n6_ := Aside0.mk (below_step (bl3 HB.out GE452.out GE462.out GE472.out) hb); clear HO_11; clear HO_463002; clear HO_463003; clear BK452; clear BK462; clear BK472; clear HB; have HO_11 := n0_; have HO_463002 := n1_; have HO_463003 := n2_; have BK452 := n3_; have BK462 := n4_; have BK472 := n5_; have HB := n6_; clear n0_ n1_ n2_ n3_ n4_ n5_ n6_; (try clear hb); (try clear hb2); (try clear hk); (try clear hi); have hnb65 := NB452_462.out; have hnc65 := NB462_452.out; have hcz66_0 : w64.cell? ⟨gb452, 0, none⟩ = some (.int .i64 x453000_2) := (blk_cell BK452.out 0).trans rfl; have hcz66_1 : w64.cell? ⟨gb452, 1, none⟩ = some (.int .i64 x453001_2) := (blk_cell BK452.out 1).trans rfl; have hcz66_2 : w64.cell? ⟨gb452, 2, none⟩ = some (.slice none 0 0) := (blk_cell BK452.out 2).trans rfl; have hcz66_3 : w64.cell? ⟨gb452, 3, none⟩ = some (.slice none 0 0) := (blk_cell BK452.out 3).trans rfl; have hfz66_0 := blk_frozen BK452.out 0; have hfz66_1 := blk_frozen BK452.out 1; have hfz66_2 := blk_frozen BK452.out 2; have hfz66_3 := blk_frozen BK452.out 3))
          refine bodyPost_ret (results_ctt rfl _ _ gb452 28 #[.int .i64 0, .int .i64 0, .slice none 0 0, .slice none 0 0] (0, 0) _ rfl (by (with_reducible repeat (first | refine blk_drewN ?_ _ | refine blk_drew ?_ | refine blk_alloc ?_ _)); refine blk_put (cs := #[.int .i64 0, .int .i64 0, .slice none 0 0, .slice none 0 0]) ?_ 3 _ rfl; (with_reducible repeat (first | refine blk_drewN ?_ _ | refine blk_drew ?_ | refine blk_alloc ?_ _)); refine blk_put (cs := #[.int .i64 0, .int .i64 0, .slice none 0 0, .slice none 0 0]) ?_ 2 _ rfl; (with_reducible repeat (first | refine blk_drewN ?_ _ | refine blk_drew ?_ | refine blk_alloc ?_ _)); refine blk_put (cs := #[.int .i64 0, .int .i64 x453001_2, .slice none 0 0, .slice none 0 0]) ?_ 1 _ rfl; (with_reducible repeat (first | refine blk_drewN ?_ _ | refine blk_drew ?_ | refine blk_alloc ?_ _)); refine blk_put (cs := #[.int .i64 x453000_2, .int .i64 x453001_2, .slice none 0 0, .slice none 0 0]) ?_ 0 _ rfl; exact bk BK452.out) Try.underlying28 rfl (by kernel_rfl)) rfl ?_
          exact ⟨_, _, _, by first | rfl | (simp [errW_none, errW_some] <;> rfl) | (simp [*, errW_none, errW_some] <;> rfl), by first | exact Kd.R_nil _ _ _ _ _ | exact Kd.N_nil _ _ _ _ _ | exact Kd.V_nil _ _ _ _ _ | exact Kd.Q_nil _ _ _ _ _ | exact Kd.S_nil _ _ _ _ _, by first | exact Kd.R_nil _ _ _ _ _ | exact Kd.N_nil _ _ _ _ _ | exact Kd.V_nil _ _ _ _ _ | exact Kd.Q_nil _ _ _ _ _ | exact Kd.S_nil _ _ _ _ _, by first | exact Kd.R_nil _ _ _ _ _ | exact Kd.N_nil _ _ _ _ _ | exact Kd.V_nil _ _ _ _ _ | exact Kd.Q_nil _ _ _ _ _ | exact Kd.S_nil _ _ _ _ _, bl3 HB.out GE452.out GE462.out GE472.out⟩
        ·rw [if_neg c19] at H
         exact absurd H (by simp)
       ·rw [if_neg c18] at H
        exact absurd H (by simp)
      ·rw [if_neg c17] at H
       have c17b0 : decide (x33_2 < (l2.length : Int)) = false := decide_eq_false c17
       clear c17
       replace H := Option.bind_eq_some_iff.mp H
       obtain ⟨⟨t463, t464, t465, t468⟩, A670, H⟩ := H
       try dsimp only at H
       have A67 := Aside0.mk A670
       clear A670
       simp only [Option.some.injEq, Prod.mk.injEq] at H
       obtain ⟨rfl, rfl, rfl, rfl, rfl, rfl⟩ := H
       have hnb68 := NB462_452.out
       have hnc68 := NB452_462.out
       have hcz69_0 : wr.cell? ⟨gb462, 0, none⟩ = some (.int .i64 x463000_2) := (blk_cell BK462.out 0).trans rfl
       have hcz69_1 : wr.cell? ⟨gb462, 1, none⟩ = some (.int .i64 x463001_2) := (blk_cell BK462.out 1).trans rfl
       have hcz69_2 : wr.cell? ⟨gb462, 2, none⟩ = some (u463002) := (blk_cell BK462.out 2).trans rfl
       have hcz69_3 : wr.cell? ⟨gb462, 3, none⟩ = some (u463003) := (blk_cell BK462.out 3).trans rfl
       have hfz69_0 := blk_frozen BK462.out 0
       have hfz69_1 := blk_frozen BK462.out 1
       have hfz69_2 := blk_frozen BK462.out 2
       have hfz69_3 := blk_frozen BK462.out 3
       obtain ⟨Ao70, co70, eo70⟩ := Kd.R_slice HO_463002.out
       subst eo70
       obtain ⟨Ao71, co71, eo71⟩ := Kd.R_slice HO_463003.out
       subst eo71
       go_wp2_with (first | ((with_reducible refine gate_callee (f := 42) rfl ?_); refine goesL_ (some 65) rfl rfl Try.func42 (by kernel_rfl) rfl #[.agg #[.int .i64 x463000_2, .int .i64 x463001_2, .slice Ao70 x463002_2.length co70, .slice Ao71 x463003_2.length co71]] rfl (by (try simp only [List.map_toArray, List.map_cons, List.map_nil]); first | done | rfl | (simp only [List.length_drop, List.length_take]; rfl)) ?_; (with_reducible refine (spec_l12Own.calls x463000_2 x463001_2 _ _ x463002_2 _ _ x463003_2 t463 t464 t465 t468 _ ?side1 ?side2 ?side3 ?side4 A67.out).mono ?_); (case side1 => exact kc (Kd.R_reads' HO_463002.out).2.2); (case side2 => exact (Kd.R_reads' HO_463002.out).2.1); (case side3 => exact kc (Kd.R_reads' HO_463003.out).2.2); (case side4 => exact (Kd.R_reads' HO_463003.out).2.1); rintro e w72 ⟨v466, v469, rfl, ho0, ho1, hb⟩; refine ⟨_, rfl, ?_⟩; have n0_ := Aside0.mk (Kd.R_below (kr HO_11.out) hb); have n1_ := Aside0.mk (Kd.R_mono (Kd.R_told (Kd.R_told (Kd.R_old (kr HO_463002.out) hb) (Kd.R_base ho0)) (Kd.R_base ho1)) (fun _ h_ => h_.1)); have n2_ := Aside0.mk (Kd.R_mono (Kd.R_told (Kd.R_told (Kd.R_old (kr HO_463003.out) hb) (Kd.R_base ho0)) (Kd.R_base ho1)) (fun _ h_ => h_.1)); have n3_ := Aside0.mk (Kd.R_lower (Kd.R_new' (Kd.R_new' ho0 (Kd.R_lt (kr HO_463002.out))) (Kd.R_lt (kr HO_463003.out))) (below_size (bl2 HB.out GE452.out GE462.out))); have n4_ := Aside0.mk (Kd.R_lower (Kd.R_new' (Kd.R_new' ho1 (Kd.R_lt (kr HO_463002.out))) (Kd.R_lt (kr HO_463003.out))) (below_size (bl2 HB.out GE452.out GE462.out))); have n5_ := Aside0.mk (blk_below (bk BK452.out) hb); have n6_ := Aside0.mk (blk_below (bk BK462.out) hb); have n7_ := Aside0.mk (below_step (bl2 HB.out GE452.out GE462.out) hb); clear HO_11; clear HO_463002; clear HO_463003; clear BK452; clear BK462; clear HB; have HO_11 := n0_; have HO_463002 := n1_; have HO_463003 := n2_; have HO467 := n3_; have HO470 := n4_; have BK452 := n5_; have BK462 := n6_; have HB := n7_; clear n0_ n1_ n2_ n3_ n4_ n5_ n6_ n7_; (try clear hb); (try clear hb2); (try clear hk); (try clear hi); (try clear ho0); (try clear ho1); have hcz73_0 : w72.cell? ⟨gb452, 0, none⟩ = some (.int .i64 x453000_2) := (blk_cell BK452.out 0).trans rfl; have hcz73_1 : w72.cell? ⟨gb452, 1, none⟩ = some (.int .i64 x453001_2) := (blk_cell BK452.out 1).trans rfl; have hcz73_2 : w72.cell? ⟨gb452, 2, none⟩ = some (.slice none 0 0) := (blk_cell BK452.out 2).trans rfl; have hcz73_3 : w72.cell? ⟨gb452, 3, none⟩ = some (.slice none 0 0) := (blk_cell BK452.out 3).trans rfl; have hfz73_0 := blk_frozen BK452.out 0; have hfz73_1 := blk_frozen BK452.out 1; have hfz73_2 := blk_frozen BK452.out 2; have hfz73_3 := blk_frozen BK452.out 3; obtain ⟨Ao74, co74, eo74⟩ := Kd.R_slice HO467.out; subst eo74; obtain ⟨Ao75, co75, eo75⟩ := Kd.R_slice HO470.out; subst eo75))
       refine bodyPost_ret (results_ctt rfl _ _ gb452 28 #[.int .i64 t463, .int .i64 t464, .slice Ao74 t465.length co74, .slice Ao75 t468.length co75] (0, 0) _ rfl (by (with_reducible repeat (first | refine blk_drewN ?_ _ | refine blk_drew ?_ | refine blk_alloc ?_ _)); refine blk_put (cs := #[.int .i64 t463, .int .i64 t464, .slice Ao74 t465.length co74, .slice none 0 0]) ?_ 3 _ rfl; (with_reducible repeat (first | refine blk_drewN ?_ _ | refine blk_drew ?_ | refine blk_alloc ?_ _)); refine blk_put (cs := #[.int .i64 t463, .int .i64 t464, .slice none 0 0, .slice none 0 0]) ?_ 2 _ rfl; (with_reducible repeat (first | refine blk_drewN ?_ _ | refine blk_drew ?_ | refine blk_alloc ?_ _)); refine blk_put (cs := #[.int .i64 t463, .int .i64 x453001_2, .slice none 0 0, .slice none 0 0]) ?_ 1 _ rfl; (with_reducible repeat (first | refine blk_drewN ?_ _ | refine blk_drew ?_ | refine blk_alloc ?_ _)); refine blk_put (cs := #[.int .i64 x453000_2, .int .i64 x453001_2, .slice none 0 0, .slice none 0 0]) ?_ 0 _ rfl; exact bk BK452.out) Try.underlying28 rfl (by kernel_rfl)) rfl ?_
       exact ⟨_, _, _, by first | rfl | (simp [errW_none, errW_some] <;> rfl) | (simp [*, errW_none, errW_some] <;> rfl), by (with_reducible repeat (first | apply Kd.R_alloc | apply Kd.R_drewN | apply Kd.R_drew)); exact Kd.R_mono (Kd.R_far (p := ⟨gb452, 3, none⟩) (Kd.R_far (p := ⟨gb452, 2, none⟩) (Kd.R_far (p := ⟨gb452, 1, none⟩) (Kd.R_far (p := ⟨gb452, 0, none⟩) (Kd.R_types HO467.out BK452.out (by decide)) (fun _ hk => hk.2) (.int .i64 t463)) (fun _ hk => hk.2) (.int .i64 t464)) (fun _ hk => hk.2) (.slice Ao74 t465.length co74)) (fun _ hk => hk.2) (.slice Ao75 t468.length co75)) (fun _ hk => hk.1.1.1), by (with_reducible repeat (first | apply Kd.R_alloc | apply Kd.R_drewN | apply Kd.R_drew)); exact Kd.R_mono (Kd.R_far (p := ⟨gb452, 3, none⟩) (Kd.R_far (p := ⟨gb452, 2, none⟩) (Kd.R_far (p := ⟨gb452, 1, none⟩) (Kd.R_far (p := ⟨gb452, 0, none⟩) (Kd.R_types HO470.out BK452.out (by decide)) (fun _ hk => hk.2) (.int .i64 t463)) (fun _ hk => hk.2) (.int .i64 t464)) (fun _ hk => hk.2) (.slice Ao74 t465.length co74)) (fun _ hk => hk.2) (.slice Ao75 t468.length co75)) (fun _ hk => hk.1.1.1), by (with_reducible repeat (first | apply Kd.R_alloc | apply Kd.R_drewN | apply Kd.R_drew)); exact Kd.R_mono (Kd.R_far (p := ⟨gb452, 3, none⟩) (Kd.R_far (p := ⟨gb452, 2, none⟩) (Kd.R_far (p := ⟨gb452, 1, none⟩) (Kd.R_far (p := ⟨gb452, 0, none⟩) (Kd.R_types HO_11.out BK452.out (by decide)) (fun _ hk => hk.2) (.int .i64 t463)) (fun _ hk => hk.2) (.int .i64 t464)) (fun _ hk => hk.2) (.slice Ao74 t465.length co74)) (fun _ hk => hk.2) (.slice Ao75 t468.length co75)) (fun _ hk => trivial), bl2 HB.out GE452.out GE462.out⟩

/-! ### laws_sameEntries: function 23 -/
def laws_sameEntries.l0 : Nat → List (S45) → List (S45) → Int → Int → Option (Bool)
 | 0, _, _, _, _ => none
 | k + 1, x0, x1, x12, x13 => if x13 < x12 then (if 0 ≤ x13 then (if x13 < (x0.length : Int) then (if x13 < (x1.length : Int) then (if (!((((rd_T45 x0 x13).f0).toList) == (((rd_T45 x1 x13).f0).toList)) || (!((((rd_T45 x0 x13).f1).toList) == (((rd_T45 x1 x13).f1).toList)))) = true then (some false) else (laws_sameEntries.l0 k x0 x1 x12 (wrap64 (x13 + 1)))) else (none)) else (none)) else (none)) else (some true)
def laws_sameEntries.f (k : Nat) (l0 : List (S45)) (l1 : List (S45)) : Option (Bool) := if (l0.length : Int) = (l1.length : Int) then (laws_sameEntries.l0 k l0 l1 (l0.length : Int) 0) else (some false)
theorem laws_sameEntries.mono_l : ∀ k, (∀ y0 y1 y2 y3, LeO (laws_sameEntries.l0 k y0 y1 y2 y3) (laws_sameEntries.l0 (k + 1) y0 y1 y2 y3))
 | 0 => fun _ _ _ _ r h => by simp [laws_sameEntries.l0] at h
 | k + 1 => by
  have ih0 := laws_sameEntries.mono_l k
  ·intro y0 y1 y2 y3
   unfold laws_sameEntries.l0
   repeat' first
   | (with_reducible exact ih0 _ _ _ _)
   | (with_reducible exact LeO.refl _)
   | (with_reducible exact LeO.none _)
   | (with_reducible refine LeO.ite ?_ ?_)
   | (with_reducible refine LeO.bind ?_ (fun _ => ?_))
   | exact ih0 _ _ _ _
   | exact LeO.none _
   | refine LeO.ite ?_ ?_
   | refine LeO.bind ?_ (fun _ => ?_)
theorem laws_sameEntries.mono : ∀ a0 a1 k, LeO (laws_sameEntries.f k a0 a1) (laws_sameEntries.f (k + 1) a0 a1) := by
 intro a0 a1 k
 have ih0 := laws_sameEntries.mono_l k
 unfold laws_sameEntries.f
 repeat' first
   | (with_reducible exact ih0 _ _ _ _)
   | (with_reducible exact LeO.refl _)
   | (with_reducible exact LeO.none _)
   | (with_reducible refine LeO.ite ?_ ?_)
   | (with_reducible refine LeO.bind ?_ (fun _ => ?_))
   | exact ih0 _ _ _ _
   | exact LeO.none _
   | refine LeO.ite ?_ ?_
   | refine LeO.bind ?_ (fun _ => ?_)
set_option maxHeartbeats 8000000 in
set_option maxRecDepth 100000 in
theorem laws_sameEntries.calls (k : Nat) (A0 : Option Addr) (c0 : Nat) (l0 : List (S45)) (A1 : Option Addr) (c1 : Nat) (l1 : List (S45)) (r : Bool) (w : World) (hr0 : Kd.C k45 w A0 l0.length l0) (hc0 : l0.length ≤ c0) (hr1 : Kd.C k45 w A1 l1.length l1) (hc1 : l1.length ≤ c1) (h : laws_sameEntries.f k l0 l1 = some r) :
  Calls Try.prog 23 #[.slice A0 l0.length c0, .slice A1 l1.length c1] w fun e w' => e = .returned (.bool r) ∧ Drawn0 w w' := by
 have hu45 := Try.underlying45
 have HR0 := Aside0.mk hr0
 have HC0 := Aside0.mk hc0
 clear hr0 hc0
 have HR1 := Aside0.mk hr1
 have HC1 := Aside0.mk hc1
 clear hr1 hc1
 have H : (if (l0.length : Int) = (l1.length : Int) then (laws_sameEntries.l0 k l0 l1 (l0.length : Int) 0) else (some false)) = some r := h
 clear h
 by_cases c3 : (l0.length : Int) = (l1.length : Int)
 ·rw [if_pos c3] at H
  have c3b0 : ((l0.length : Int) == (l1.length : Int)) = true := beq_iff_eq.mpr c3
  have c3b1 : ((l0.length : Int) != (l1.length : Int)) = false := bne_eq_false_iff_eq.mpr c3
  have c3b2 : (l0.length == l1.length) = true := by first | simpa using c3 | (simp at c3 ⊢; omega)
  clear c3
  have H' := Aside0.mk H
  clear H
  go_enter Try.func23, Try.ntmps23
  go_wp2
  repeat (go_quiet (fail); try go_wp2)
  go_loopg [13] k (fun kq v13 w' => ∃ (x13_1 : Int), v13 = .int .i64 x13_1 ∧ Aside0 (laws_sameEntries.l0 kq l0 l1 (l0.length : Int) x13_1 = some r) ∧ Aside0 (kq ≤ k) ∧ Drawn0 w w')
  case atStart => exact ⟨(0), (by first | rfl | (simp; done) | (simp [*]; done)), H', ⟨Nat.le_refl _⟩, by repeat (first | exact Drawn0.refl _ | apply Drawn0.step)⟩
  case round =>
   clear H'
   try clear c1
   try clear c2
   try clear p2
   try clear c3
   try clear c3b0
   try clear c3b1
   try clear c3b2
   obtain ⟨x13_1, rfl, HA, HK1, ⟨m1, rfl⟩⟩ := hrel
   cases gk with
   | zero => exact absurd HA.out (by simp [laws_sameEntries.l0])
   | succ k1 =>
    have H := HA.out
    clear HA
    simp only [laws_sameEntries.l0] at H
    by_cases c4 : x13_1 < (l0.length : Int)
    ·rw [if_pos c4] at H
     have c4b0 : decide (x13_1 < (l0.length : Int)) = true := decide_eq_true c4
     clear c4
     by_cases c5 : 0 ≤ x13_1
     ·rw [if_pos c5] at H
      have c5b0 : decide (0 ≤ x13_1) = true := decide_eq_true c5
      clear c5
      by_cases c6 : x13_1 < (l0.length : Int)
      ·rw [if_pos c6] at H
       have c6b0 : decide (x13_1 < (l0.length : Int)) = true := decide_eq_true c6
       clear c6
       by_cases c7 : x13_1 < (l1.length : Int)
       ·rw [if_pos c7] at H
        have c7b0 : decide (x13_1 < (l1.length : Int)) = true := decide_eq_true c7
        clear c7
        by_cases c8 : (!((((rd_T45 l0 x13_1).f0).toList) == (((rd_T45 l1 x13_1).f0).toList)) || (!((((rd_T45 l0 x13_1).f1).toList) == (((rd_T45 l1 x13_1).f1).toList)))) = true
        ·rw [if_pos c8] at H
         have c8b0 : (!((((rd_T45 l0 x13_1).f0).toList) == (((rd_T45 l1 x13_1).f0).toList)) || (!((((rd_T45 l0 x13_1).f1).toList) == (((rd_T45 l1 x13_1).f1).toList)))) = true := c8
         clear c8
         obtain rfl := Option.some.inj H
         have p499 : 0 ≤ (x13_1 : Int) := of_decide_eq_true (by first | (with_reducible assumption) | assumption)
         have q499 : x13_1 < (l0.length : Int) := of_decide_eq_true (by first | (with_reducible assumption) | assumption)
         obtain ⟨ad499, e499, hx499_0, hx499_1⟩ := at_T45 HR0.out x13_1 p499 q499
         cases e499
         replace p499 := eq_true p499
         replace q499 := eq_true q499
         have p500 : 0 ≤ (x13_1 : Int) := of_decide_eq_true (by first | (with_reducible assumption) | assumption)
         have q500 : x13_1 < (l1.length : Int) := of_decide_eq_true (by first | (with_reducible assumption) | assumption)
         obtain ⟨ad500, e500, hx500_0, hx500_1⟩ := at_T45 HR1.out x13_1 p500 q500
         cases e500
         replace p500 := eq_true p500
         replace q500 := eq_true q500
         go_wp2
         repeat (go_quiet (fail); try go_wp2)
         go_ret
         exact ⟨by first | rfl | (simp; done) | (simp [*]; done), by repeat (first | exact Drawn0.refl _ | apply Drawn0.step)⟩
        ·rw [if_neg c8] at H
         have c8b0 : (!((((rd_T45 l0 x13_1).f0).toList) == (((rd_T45 l1 x13_1).f0).toList)) || (!((((rd_T45 l0 x13_1).f1).toList) == (((rd_T45 l1 x13_1).f1).toList)))) = false := by simpa using c8
         clear c8
         have H' := Aside0.mk H
         clear H
         have p499 : 0 ≤ (x13_1 : Int) := of_decide_eq_true (by first | (with_reducible assumption) | assumption)
         have q499 : x13_1 < (l0.length : Int) := of_decide_eq_true (by first | (with_reducible assumption) | assumption)
         obtain ⟨ad499, e499, hx499_0, hx499_1⟩ := at_T45 HR0.out x13_1 p499 q499
         cases e499
         replace p499 := eq_true p499
         replace q499 := eq_true q499
         have p500 : 0 ≤ (x13_1 : Int) := of_decide_eq_true (by first | (with_reducible assumption) | assumption)
         have q500 : x13_1 < (l1.length : Int) := of_decide_eq_true (by first | (with_reducible assumption) | assumption)
         obtain ⟨ad500, e500, hx500_0, hx500_1⟩ := at_T45 HR1.out x13_1 p500 q500
         cases e500
         replace p500 := eq_true p500
         replace q500 := eq_true q500
         go_wp2
         repeat (go_quiet (fail); try go_wp2)
         go_roundg k1
         case measure => have := HK1.out; omega
         case rel => exact ⟨(wrap64 (x13_1 + 1)), (by first | rfl | (simp; done) | (simp [*]; done)), H', ⟨by have := HK1.out; omega⟩, by repeat (first | exact Drawn0.refl _ | apply Drawn0.step)⟩
       ·rw [if_neg c7] at H
        exact absurd H (by simp)
      ·rw [if_neg c6] at H
       exact absurd H (by simp)
     ·rw [if_neg c5] at H
      exact absurd H (by simp)
    ·rw [if_neg c4] at H
     have c4b0 : decide (x13_1 < (l0.length : Int)) = false := decide_eq_false c4
     clear c4
     obtain rfl := Option.some.inj H
     go_wp2
     repeat (go_quiet (fail); try go_wp2)
     go_ret
     exact ⟨by first | rfl | (simp; done) | (simp [*]; done), by repeat (first | exact Drawn0.refl _ | apply Drawn0.step)⟩
 ·rw [if_neg c3] at H
  have c3b0 : ((l0.length : Int) == (l1.length : Int)) = false := beq_eq_false_iff_ne.mpr c3
  have c3b1 : ((l0.length : Int) != (l1.length : Int)) = true := bne_iff_ne.mpr c3
  have c3b2 : (l0.length == l1.length) = false := by first | simpa using c3 | (simp at c3 ⊢; omega)
  obtain rfl := Option.some.inj H
  go_enter Try.func23, Try.ntmps23
  go_wp2
  repeat (go_quiet (fail); try go_wp2)
  go_ret
  exact ⟨by first | rfl | (simp; done) | (simp [*]; done), by repeat (first | exact Drawn0.refl _ | apply Drawn0.step)⟩

/-! ### laws_sameCaches: function 19 -/
def laws_sameCaches.f (k : Nat) (a0_0 : Int) (a0_1 : Int) (l0_2 : List (S45)) (l0_3 : List (S45)) (a1_0 : Int) (a1_1 : Int) (l1_2 : List (S45)) (l1_3 : List (S45)) : Option (Bool) := if a0_0 = a1_0 then (if a0_1 = a1_1 then ((laws_sameEntries.f k l0_2 l1_2).bind fun t503 => (if t503 = true then ((laws_sameEntries.f k l0_3 l1_3).bind fun t504 => (some t504)) else (some false))) else (some false)) else (some false)
theorem laws_sameCaches.mono : ∀ a0 a1 a2 a3 a4 a5 a6 a7 k, LeO (laws_sameCaches.f k a0 a1 a2 a3 a4 a5 a6 a7) (laws_sameCaches.f (k + 1) a0 a1 a2 a3 a4 a5 a6 a7) := by
 intro a0 a1 a2 a3 a4 a5 a6 a7 k
 unfold laws_sameCaches.f
 repeat' first
   | (with_reducible exact laws_sameEntries.mono _ _ _)
   | (with_reducible exact LeO.refl _)
   | (with_reducible exact LeO.none _)
   | (with_reducible refine LeO.ite ?_ ?_)
   | (with_reducible refine LeO.bind ?_ (fun _ => ?_))
   | exact laws_sameEntries.mono _ _ _
   | exact LeO.none _
   | refine LeO.ite ?_ ?_
   | refine LeO.bind ?_ (fun _ => ?_)
set_option maxHeartbeats 8000000 in
set_option maxRecDepth 100000 in
theorem laws_sameCaches.calls (k : Nat) (a0_0 : Int) (a0_1 : Int) (A0_2 : Option Addr) (c0_2 : Nat) (l0_2 : List (S45)) (A0_3 : Option Addr) (c0_3 : Nat) (l0_3 : List (S45)) (a1_0 : Int) (a1_1 : Int) (A1_2 : Option Addr) (c1_2 : Nat) (l1_2 : List (S45)) (A1_3 : Option Addr) (c1_3 : Nat) (l1_3 : List (S45)) (r : Bool) (w : World) (hr0_2 : Kd.C k45 w A0_2 l0_2.length l0_2) (hc0_2 : l0_2.length ≤ c0_2) (hr0_3 : Kd.C k45 w A0_3 l0_3.length l0_3) (hc0_3 : l0_3.length ≤ c0_3) (hr1_2 : Kd.C k45 w A1_2 l1_2.length l1_2) (hc1_2 : l1_2.length ≤ c1_2) (hr1_3 : Kd.C k45 w A1_3 l1_3.length l1_3) (hc1_3 : l1_3.length ≤ c1_3) (h : laws_sameCaches.f k a0_0 a0_1 l0_2 l0_3 a1_0 a1_1 l1_2 l1_3 = some r) :
  Calls Try.prog 19 #[.agg #[.int .i64 a0_0, .int .i64 a0_1, .slice A0_2 l0_2.length c0_2, .slice A0_3 l0_3.length c0_3], .agg #[.int .i64 a1_0, .int .i64 a1_1, .slice A1_2 l1_2.length c1_2, .slice A1_3 l1_3.length c1_3]] w fun e w' => e = .returned (.bool r) ∧ Below w.heap.size w w' := by
 have hu28 := Try.underlying28
 have HR0_2 := Aside0.mk hr0_2
 have HC0_2 := Aside0.mk hc0_2
 clear hr0_2 hc0_2
 have HR0_3 := Aside0.mk hr0_3
 have HC0_3 := Aside0.mk hc0_3
 clear hr0_3 hc0_3
 have HR1_2 := Aside0.mk hr1_2
 have HC1_2 := Aside0.mk hc1_2
 clear hr1_2 hc1_2
 have HR1_3 := Aside0.mk hr1_3
 have HC1_3 := Aside0.mk hc1_3
 clear hr1_3 hc1_3
 have HB := Aside0.mk (Below.refl w.heap.size w)
 have H : (if a0_0 = a1_0 then (if a0_1 = a1_1 then ((laws_sameEntries.f k l0_2 l1_2).bind fun t503 => (if t503 = true then ((laws_sameEntries.f k l0_3 l1_3).bind fun t504 => (some t504)) else (some false))) else (some false)) else (some false)) = some r := h
 clear h
 by_cases c3 : a0_0 = a1_0
 ·rw [if_pos c3] at H
  have c3b0 : (a0_0 == a1_0) = true := beq_iff_eq.mpr c3
  have c3b1 : (a0_0 != a1_0) = false := bne_eq_false_iff_eq.mpr c3
  clear c3
  by_cases c4 : a0_1 = a1_1
  ·rw [if_pos c4] at H
   have c4b0 : (a0_1 == a1_1) = true := beq_iff_eq.mpr c4
   have c4b1 : (a0_1 != a1_1) = false := bne_eq_false_iff_eq.mpr c4
   clear c4
   replace H := Option.bind_eq_some_iff.mp H
   obtain ⟨t503, A50, H⟩ := H
   try dsimp only at H
   have A5 := Aside0.mk A50
   clear A50
   by_cases c6 : t503 = true
   ·subst c6
    have H1 : ((laws_sameEntries.f k l0_3 l1_3).bind fun t504 => (some t504)) = some r := by rw [if_pos rfl] at H; exact H
    clear H
    have H := H1
    clear H1
    replace H := Option.bind_eq_some_iff.mp H
    obtain ⟨t504, A70, H⟩ := H
    try dsimp only at H
    have A7 := Aside0.mk A70
    clear A70
    obtain rfl := Option.some.inj H
    go_enter Try.func19, Try.ntmps19
    go_wp2_with (first | ((with_reducible refine gate_dst (N := 2) rfl ?_); refine box_event ?hg (N := 2) ?hd (cs := #[.int .i64 a0_0, .int .i64 a0_1, .slice A0_2 l0_2.length c0_2, .slice A0_3 l0_3.length c0_3]) (t := 28) ?hr ?_; (case hd => rfl); (case hg => rfl); (case hr => first | (go_simp; done) | (go_simp; rfl)); intro gb501 hg w8 hbox hb; have n0_ := Aside0.mk (below_step (bl HB.out) hb); have n1_ := Aside0.mk (hbox); have n2_ := Aside0.mk ((by rw [hg]; exact (below_size (bl HB.out)) : w.heap.size ≤ gb501)); have n3_ := Aside0.mk ((by rw [hg]; exact (below_size (bl HB.out)) : w.heap.size ≤ gb501)); clear HB; have HB := n0_; have BK501 := n1_; have GW501 := n2_; have GE501 := n3_; clear n0_ n1_ n2_ n3_; clear hb hbox hg) | ((with_reducible refine gate_dst (N := 3) rfl ?_); refine box_event ?hg (N := 3) ?hd (cs := #[.int .i64 a1_0, .int .i64 a1_1, .slice A1_2 l1_2.length c1_2, .slice A1_3 l1_3.length c1_3]) (t := 28) ?hr ?_; (case hd => rfl); (case hg => rfl); (case hr => first | (go_simp; done) | (go_simp; rfl)); intro gb502 hg w9 hbox hb; have n0_ := Aside0.mk (blk_below (bk BK501.out) hb); have n1_ := Aside0.mk (below_step (bl1 HB.out GE501.out) hb); have n2_ := Aside0.mk (hbox); have n3_ := Aside0.mk ((by rw [hg]; exact (below_size (bl1 HB.out GE501.out)) : w.heap.size ≤ gb502)); have n4_ := Aside0.mk ((by rw [hg]; exact (below_size (bl1 HB.out GE501.out)) : w.heap.size ≤ gb502)); have n5_ := Aside0.mk ((by rw [hg]; exact Nat.ne_of_lt (blk_lt (bk BK501.out)) : gb501 ≠ gb502)); have n6_ := Aside0.mk ((by rw [hg]; exact Nat.ne_of_gt (blk_lt (bk BK501.out)) : gb502 ≠ gb501)); clear BK501; clear HB; have BK501 := n0_; have HB := n1_; have BK502 := n2_; have GW502 := n3_; have GE502 := n4_; have NB501_502 := n5_; have NB502_501 := n6_; clear n0_ n1_ n2_ n3_ n4_ n5_ n6_; clear hb hbox hg; have hnb10 := NB501_502.out; have hnc10 := NB502_501.out; have hcz11_0 : w9.cell? ⟨gb501, 0, none⟩ = some (.int .i64 a0_0) := (blk_cell BK501.out 0).trans rfl; have hcz11_1 : w9.cell? ⟨gb501, 1, none⟩ = some (.int .i64 a0_1) := (blk_cell BK501.out 1).trans rfl; have hcz11_2 : w9.cell? ⟨gb501, 2, none⟩ = some (.slice A0_2 l0_2.length c0_2) := (blk_cell BK501.out 2).trans rfl; have hcz11_3 : w9.cell? ⟨gb501, 3, none⟩ = some (.slice A0_3 l0_3.length c0_3) := (blk_cell BK501.out 3).trans rfl; have hfz11_0 := blk_frozen BK501.out 0; have hfz11_1 := blk_frozen BK501.out 1; have hfz11_2 := blk_frozen BK501.out 2; have hfz11_3 := blk_frozen BK501.out 3; have hcz12_0 : w9.cell? ⟨gb502, 0, none⟩ = some (.int .i64 a1_0) := (blk_cell BK502.out 0).trans rfl; have hcz12_1 : w9.cell? ⟨gb502, 1, none⟩ = some (.int .i64 a1_1) := (blk_cell BK502.out 1).trans rfl; have hcz12_2 : w9.cell? ⟨gb502, 2, none⟩ = some (.slice A1_2 l1_2.length c1_2) := (blk_cell BK502.out 2).trans rfl; have hcz12_3 : w9.cell? ⟨gb502, 3, none⟩ = some (.slice A1_3 l1_3.length c1_3) := (blk_cell BK502.out 3).trans rfl; have hfz12_0 := blk_frozen BK502.out 0; have hfz12_1 := blk_frozen BK502.out 1; have hfz12_2 := blk_frozen BK502.out 2; have hfz12_3 := blk_frozen BK502.out 3) | (go_at_call 23; (with_reducible refine (laws_sameEntries.calls k _ _ l0_2 _ _ l1_2 true _ ?side1 ?side2 ?side3 ?side4 A5.out).mono ?_); (case side1 => exact kc (Kd.C_below HR0_2.out HB.out)); (case side2 => exact HC0_2.out); (case side3 => exact kc (Kd.C_below HR1_2.out HB.out)); (case side4 => exact HC1_2.out); rintro e w' ⟨rfl, ⟨nd, rfl⟩⟩) | (go_at_call 23; (with_reducible refine (laws_sameEntries.calls k _ _ l0_3 _ _ l1_3 t504 _ ?side1 ?side2 ?side3 ?side4 A7.out).mono ?_); (case side1 => exact kc (Kd.C_below HR0_3.out (bl2 HB.out GE501.out GE502.out))); (case side2 => exact HC0_3.out); (case side3 => exact kc (Kd.C_below HR1_3.out (bl2 HB.out GE501.out GE502.out))); (case side4 => exact HC1_3.out); rintro e w' ⟨rfl, ⟨nd, rfl⟩⟩))
    go_ret
    exact ⟨by first | rfl | (simp [errW_none, errW_some] <;> rfl) | (simp [*, errW_none, errW_some] <;> rfl), bl2 HB.out GE501.out GE502.out⟩
   ·replace c6 := Bool.eq_false_iff.mpr c6
    subst c6
    have H1 : (some false) = some r := by rw [if_neg (show ¬ (false = true) by decide)] at H; exact H
    clear H
    have H := H1
    clear H1
    obtain rfl := Option.some.inj H
    go_enter Try.func19, Try.ntmps19
    go_wp2_with (first | ((with_reducible refine gate_dst (N := 2) rfl ?_); refine box_event ?hg (N := 2) ?hd (cs := #[.int .i64 a0_0, .int .i64 a0_1, .slice A0_2 l0_2.length c0_2, .slice A0_3 l0_3.length c0_3]) (t := 28) ?hr ?_; (case hd => rfl); (case hg => rfl); (case hr => first | (go_simp; done) | (go_simp; rfl)); intro gb501 hg w13 hbox hb; have n0_ := Aside0.mk (below_step (bl HB.out) hb); have n1_ := Aside0.mk (hbox); have n2_ := Aside0.mk ((by rw [hg]; exact (below_size (bl HB.out)) : w.heap.size ≤ gb501)); have n3_ := Aside0.mk ((by rw [hg]; exact (below_size (bl HB.out)) : w.heap.size ≤ gb501)); clear HB; have HB := n0_; have BK501 := n1_; have GW501 := n2_; have GE501 := n3_; clear n0_ n1_ n2_ n3_; clear hb hbox hg) | ((with_reducible refine gate_dst (N := 3) rfl ?_); refine box_event ?hg (N := 3) ?hd (cs := #[.int .i64 a1_0, .int .i64 a1_1, .slice A1_2 l1_2.length c1_2, .slice A1_3 l1_3.length c1_3]) (t := 28) ?hr ?_; (case hd => rfl); (case hg => rfl); (case hr => first | (go_simp; done) | (go_simp; rfl)); intro gb502 hg w14 hbox hb; have n0_ := Aside0.mk (blk_below (bk BK501.out) hb); have n1_ := Aside0.mk (below_step (bl1 HB.out GE501.out) hb); have n2_ := Aside0.mk (hbox); have n3_ := Aside0.mk ((by rw [hg]; exact (below_size (bl1 HB.out GE501.out)) : w.heap.size ≤ gb502)); have n4_ := Aside0.mk ((by rw [hg]; exact (below_size (bl1 HB.out GE501.out)) : w.heap.size ≤ gb502)); have n5_ := Aside0.mk ((by rw [hg]; exact Nat.ne_of_lt (blk_lt (bk BK501.out)) : gb501 ≠ gb502)); have n6_ := Aside0.mk ((by rw [hg]; exact Nat.ne_of_gt (blk_lt (bk BK501.out)) : gb502 ≠ gb501)); clear BK501; clear HB; have BK501 := n0_; have HB := n1_; have BK502 := n2_; have GW502 := n3_; have GE502 := n4_; have NB501_502 := n5_; have NB502_501 := n6_; clear n0_ n1_ n2_ n3_ n4_ n5_ n6_; clear hb hbox hg; have hnb15 := NB501_502.out; have hnc15 := NB502_501.out; have hcz16_0 : w14.cell? ⟨gb501, 0, none⟩ = some (.int .i64 a0_0) := (blk_cell BK501.out 0).trans rfl; have hcz16_1 : w14.cell? ⟨gb501, 1, none⟩ = some (.int .i64 a0_1) := (blk_cell BK501.out 1).trans rfl; have hcz16_2 : w14.cell? ⟨gb501, 2, none⟩ = some (.slice A0_2 l0_2.length c0_2) := (blk_cell BK501.out 2).trans rfl; have hcz16_3 : w14.cell? ⟨gb501, 3, none⟩ = some (.slice A0_3 l0_3.length c0_3) := (blk_cell BK501.out 3).trans rfl; have hfz16_0 := blk_frozen BK501.out 0; have hfz16_1 := blk_frozen BK501.out 1; have hfz16_2 := blk_frozen BK501.out 2; have hfz16_3 := blk_frozen BK501.out 3; have hcz17_0 : w14.cell? ⟨gb502, 0, none⟩ = some (.int .i64 a1_0) := (blk_cell BK502.out 0).trans rfl; have hcz17_1 : w14.cell? ⟨gb502, 1, none⟩ = some (.int .i64 a1_1) := (blk_cell BK502.out 1).trans rfl; have hcz17_2 : w14.cell? ⟨gb502, 2, none⟩ = some (.slice A1_2 l1_2.length c1_2) := (blk_cell BK502.out 2).trans rfl; have hcz17_3 : w14.cell? ⟨gb502, 3, none⟩ = some (.slice A1_3 l1_3.length c1_3) := (blk_cell BK502.out 3).trans rfl; have hfz17_0 := blk_frozen BK502.out 0; have hfz17_1 := blk_frozen BK502.out 1; have hfz17_2 := blk_frozen BK502.out 2; have hfz17_3 := blk_frozen BK502.out 3) | (go_at_call 23; (with_reducible refine (laws_sameEntries.calls k _ _ l0_2 _ _ l1_2 false _ ?side1 ?side2 ?side3 ?side4 A5.out).mono ?_); (case side1 => exact kc (Kd.C_below HR0_2.out HB.out)); (case side2 => exact HC0_2.out); (case side3 => exact kc (Kd.C_below HR1_2.out HB.out)); (case side4 => exact HC1_2.out); rintro e w' ⟨rfl, ⟨nd, rfl⟩⟩))
    go_ret
    exact ⟨by first | rfl | (simp [errW_none, errW_some] <;> rfl) | (simp [*, errW_none, errW_some] <;> rfl), bl2 HB.out GE501.out GE502.out⟩
  ·rw [if_neg c4] at H
   have c4b0 : (a0_1 == a1_1) = false := beq_eq_false_iff_ne.mpr c4
   have c4b1 : (a0_1 != a1_1) = true := bne_iff_ne.mpr c4
   obtain rfl := Option.some.inj H
   go_enter Try.func19, Try.ntmps19
   go_wp2_with (first | ((with_reducible refine gate_dst (N := 2) rfl ?_); refine box_event ?hg (N := 2) ?hd (cs := #[.int .i64 a0_0, .int .i64 a0_1, .slice A0_2 l0_2.length c0_2, .slice A0_3 l0_3.length c0_3]) (t := 28) ?hr ?_; (case hd => rfl); (case hg => rfl); (case hr => first | (go_simp; done) | (go_simp; rfl)); intro gb501 hg w18 hbox hb; have n0_ := Aside0.mk (below_step (bl HB.out) hb); have n1_ := Aside0.mk (hbox); have n2_ := Aside0.mk ((by rw [hg]; exact (below_size (bl HB.out)) : w.heap.size ≤ gb501)); have n3_ := Aside0.mk ((by rw [hg]; exact (below_size (bl HB.out)) : w.heap.size ≤ gb501)); clear HB; have HB := n0_; have BK501 := n1_; have GW501 := n2_; have GE501 := n3_; clear n0_ n1_ n2_ n3_; clear hb hbox hg) | ((with_reducible refine gate_dst (N := 3) rfl ?_); refine box_event ?hg (N := 3) ?hd (cs := #[.int .i64 a1_0, .int .i64 a1_1, .slice A1_2 l1_2.length c1_2, .slice A1_3 l1_3.length c1_3]) (t := 28) ?hr ?_; (case hd => rfl); (case hg => rfl); (case hr => first | (go_simp; done) | (go_simp; rfl)); intro gb502 hg w19 hbox hb; have n0_ := Aside0.mk (blk_below (bk BK501.out) hb); have n1_ := Aside0.mk (below_step (bl1 HB.out GE501.out) hb); have n2_ := Aside0.mk (hbox); have n3_ := Aside0.mk ((by rw [hg]; exact (below_size (bl1 HB.out GE501.out)) : w.heap.size ≤ gb502)); have n4_ := Aside0.mk ((by rw [hg]; exact (below_size (bl1 HB.out GE501.out)) : w.heap.size ≤ gb502)); have n5_ := Aside0.mk ((by rw [hg]; exact Nat.ne_of_lt (blk_lt (bk BK501.out)) : gb501 ≠ gb502)); have n6_ := Aside0.mk ((by rw [hg]; exact Nat.ne_of_gt (blk_lt (bk BK501.out)) : gb502 ≠ gb501)); clear BK501; clear HB; have BK501 := n0_; have HB := n1_; have BK502 := n2_; have GW502 := n3_; have GE502 := n4_; have NB501_502 := n5_; have NB502_501 := n6_; clear n0_ n1_ n2_ n3_ n4_ n5_ n6_; clear hb hbox hg; have hnb20 := NB501_502.out; have hnc20 := NB502_501.out; have hcz21_0 : w19.cell? ⟨gb501, 0, none⟩ = some (.int .i64 a0_0) := (blk_cell BK501.out 0).trans rfl; have hcz21_1 : w19.cell? ⟨gb501, 1, none⟩ = some (.int .i64 a0_1) := (blk_cell BK501.out 1).trans rfl; have hcz21_2 : w19.cell? ⟨gb501, 2, none⟩ = some (.slice A0_2 l0_2.length c0_2) := (blk_cell BK501.out 2).trans rfl; have hcz21_3 : w19.cell? ⟨gb501, 3, none⟩ = some (.slice A0_3 l0_3.length c0_3) := (blk_cell BK501.out 3).trans rfl; have hfz21_0 := blk_frozen BK501.out 0; have hfz21_1 := blk_frozen BK501.out 1; have hfz21_2 := blk_frozen BK501.out 2; have hfz21_3 := blk_frozen BK501.out 3; have hcz22_0 : w19.cell? ⟨gb502, 0, none⟩ = some (.int .i64 a1_0) := (blk_cell BK502.out 0).trans rfl; have hcz22_1 : w19.cell? ⟨gb502, 1, none⟩ = some (.int .i64 a1_1) := (blk_cell BK502.out 1).trans rfl; have hcz22_2 : w19.cell? ⟨gb502, 2, none⟩ = some (.slice A1_2 l1_2.length c1_2) := (blk_cell BK502.out 2).trans rfl; have hcz22_3 : w19.cell? ⟨gb502, 3, none⟩ = some (.slice A1_3 l1_3.length c1_3) := (blk_cell BK502.out 3).trans rfl; have hfz22_0 := blk_frozen BK502.out 0; have hfz22_1 := blk_frozen BK502.out 1; have hfz22_2 := blk_frozen BK502.out 2; have hfz22_3 := blk_frozen BK502.out 3))
   go_ret
   exact ⟨by first | rfl | (simp [errW_none, errW_some] <;> rfl) | (simp [*, errW_none, errW_some] <;> rfl), bl2 HB.out GE501.out GE502.out⟩
 ·rw [if_neg c3] at H
  have c3b0 : (a0_0 == a1_0) = false := beq_eq_false_iff_ne.mpr c3
  have c3b1 : (a0_0 != a1_0) = true := bne_iff_ne.mpr c3
  obtain rfl := Option.some.inj H
  go_enter Try.func19, Try.ntmps19
  go_wp2_with (first | ((with_reducible refine gate_dst (N := 2) rfl ?_); refine box_event ?hg (N := 2) ?hd (cs := #[.int .i64 a0_0, .int .i64 a0_1, .slice A0_2 l0_2.length c0_2, .slice A0_3 l0_3.length c0_3]) (t := 28) ?hr ?_; (case hd => rfl); (case hg => rfl); (case hr => first | (go_simp; done) | (go_simp; rfl)); intro gb501 hg w23 hbox hb; have n0_ := Aside0.mk (below_step (bl HB.out) hb); have n1_ := Aside0.mk (hbox); have n2_ := Aside0.mk ((by rw [hg]; exact (below_size (bl HB.out)) : w.heap.size ≤ gb501)); have n3_ := Aside0.mk ((by rw [hg]; exact (below_size (bl HB.out)) : w.heap.size ≤ gb501)); clear HB; have HB := n0_; have BK501 := n1_; have GW501 := n2_; have GE501 := n3_; clear n0_ n1_ n2_ n3_; clear hb hbox hg) | ((with_reducible refine gate_dst (N := 3) rfl ?_); refine box_event ?hg (N := 3) ?hd (cs := #[.int .i64 a1_0, .int .i64 a1_1, .slice A1_2 l1_2.length c1_2, .slice A1_3 l1_3.length c1_3]) (t := 28) ?hr ?_; (case hd => rfl); (case hg => rfl); (case hr => first | (go_simp; done) | (go_simp; rfl)); intro gb502 hg w24 hbox hb; have n0_ := Aside0.mk (blk_below (bk BK501.out) hb); have n1_ := Aside0.mk (below_step (bl1 HB.out GE501.out) hb); have n2_ := Aside0.mk (hbox); have n3_ := Aside0.mk ((by rw [hg]; exact (below_size (bl1 HB.out GE501.out)) : w.heap.size ≤ gb502)); have n4_ := Aside0.mk ((by rw [hg]; exact (below_size (bl1 HB.out GE501.out)) : w.heap.size ≤ gb502)); have n5_ := Aside0.mk ((by rw [hg]; exact Nat.ne_of_lt (blk_lt (bk BK501.out)) : gb501 ≠ gb502)); have n6_ := Aside0.mk ((by rw [hg]; exact Nat.ne_of_gt (blk_lt (bk BK501.out)) : gb502 ≠ gb501)); clear BK501; clear HB; have BK501 := n0_; have HB := n1_; have BK502 := n2_; have GW502 := n3_; have GE502 := n4_; have NB501_502 := n5_; have NB502_501 := n6_; clear n0_ n1_ n2_ n3_ n4_ n5_ n6_; clear hb hbox hg; have hnb25 := NB501_502.out; have hnc25 := NB502_501.out; have hcz26_0 : w24.cell? ⟨gb501, 0, none⟩ = some (.int .i64 a0_0) := (blk_cell BK501.out 0).trans rfl; have hcz26_1 : w24.cell? ⟨gb501, 1, none⟩ = some (.int .i64 a0_1) := (blk_cell BK501.out 1).trans rfl; have hcz26_2 : w24.cell? ⟨gb501, 2, none⟩ = some (.slice A0_2 l0_2.length c0_2) := (blk_cell BK501.out 2).trans rfl; have hcz26_3 : w24.cell? ⟨gb501, 3, none⟩ = some (.slice A0_3 l0_3.length c0_3) := (blk_cell BK501.out 3).trans rfl; have hfz26_0 := blk_frozen BK501.out 0; have hfz26_1 := blk_frozen BK501.out 1; have hfz26_2 := blk_frozen BK501.out 2; have hfz26_3 := blk_frozen BK501.out 3; have hcz27_0 : w24.cell? ⟨gb502, 0, none⟩ = some (.int .i64 a1_0) := (blk_cell BK502.out 0).trans rfl; have hcz27_1 : w24.cell? ⟨gb502, 1, none⟩ = some (.int .i64 a1_1) := (blk_cell BK502.out 1).trans rfl; have hcz27_2 : w24.cell? ⟨gb502, 2, none⟩ = some (.slice A1_2 l1_2.length c1_2) := (blk_cell BK502.out 2).trans rfl; have hcz27_3 : w24.cell? ⟨gb502, 3, none⟩ = some (.slice A1_3 l1_3.length c1_3) := (blk_cell BK502.out 3).trans rfl; have hfz27_0 := blk_frozen BK502.out 0; have hfz27_1 := blk_frozen BK502.out 1; have hfz27_2 := blk_frozen BK502.out 2; have hfz27_3 := blk_frozen BK502.out 3))
  go_ret
  exact ⟨by first | rfl | (simp [errW_none, errW_some] <;> rfl) | (simp [*, errW_none, errW_some] <;> rfl), bl2 HB.out GE501.out GE502.out⟩

/-! ### laws_sameTexts: function 20 -/
def laws_sameTexts.l0 : Nat → List ByteArray → List ByteArray → Int → Int → Option (Bool)
 | 0, _, _, _, _ => none
 | k + 1, x0, x1, x12, x13 => if x13 < x12 then (if 0 ≤ x13 then (if x13 < (x0.length : Int) then (if x13 < (x1.length : Int) then (if (rdOf ByteArray.empty x0 x13).toList = (rdOf ByteArray.empty x1 x13).toList then (laws_sameTexts.l0 k x0 x1 x12 (wrap64 (x13 + 1))) else (some false)) else (none)) else (none)) else (none)) else (some true)
def laws_sameTexts.f (k : Nat) (l0 : List ByteArray) (l1 : List ByteArray) : Option (Bool) := if (l0.length : Int) = (l1.length : Int) then (laws_sameTexts.l0 k l0 l1 (l0.length : Int) 0) else (some false)
theorem laws_sameTexts.mono_l : ∀ k, (∀ y0 y1 y2 y3, LeO (laws_sameTexts.l0 k y0 y1 y2 y3) (laws_sameTexts.l0 (k + 1) y0 y1 y2 y3))
 | 0 => fun _ _ _ _ r h => by simp [laws_sameTexts.l0] at h
 | k + 1 => by
  have ih0 := laws_sameTexts.mono_l k
  ·intro y0 y1 y2 y3
   unfold laws_sameTexts.l0
   repeat' first
   | (with_reducible exact ih0 _ _ _ _)
   | (with_reducible exact LeO.refl _)
   | (with_reducible exact LeO.none _)
   | (with_reducible refine LeO.ite ?_ ?_)
   | (with_reducible refine LeO.bind ?_ (fun _ => ?_))
   | exact ih0 _ _ _ _
   | exact LeO.none _
   | refine LeO.ite ?_ ?_
   | refine LeO.bind ?_ (fun _ => ?_)
theorem laws_sameTexts.mono : ∀ a0 a1 k, LeO (laws_sameTexts.f k a0 a1) (laws_sameTexts.f (k + 1) a0 a1) := by
 intro a0 a1 k
 have ih0 := laws_sameTexts.mono_l k
 unfold laws_sameTexts.f
 repeat' first
   | (with_reducible exact ih0 _ _ _ _)
   | (with_reducible exact LeO.refl _)
   | (with_reducible exact LeO.none _)
   | (with_reducible refine LeO.ite ?_ ?_)
   | (with_reducible refine LeO.bind ?_ (fun _ => ?_))
   | exact ih0 _ _ _ _
   | exact LeO.none _
   | refine LeO.ite ?_ ?_
   | refine LeO.bind ?_ (fun _ => ?_)
set_option maxHeartbeats 8000000 in
set_option maxRecDepth 100000 in
theorem laws_sameTexts.calls (k : Nat) (A0 : Option Addr) (c0 : Nat) (l0 : List ByteArray) (A1 : Option Addr) (c1 : Nat) (l1 : List ByteArray) (r : Bool) (w : World) (hr0 : Kd.C Kd.string w A0 l0.length l0) (hc0 : l0.length ≤ c0) (hr1 : Kd.C Kd.string w A1 l1.length l1) (hc1 : l1.length ≤ c1) (h : laws_sameTexts.f k l0 l1 = some r) :
  Calls Try.prog 20 #[.slice A0 l0.length c0, .slice A1 l1.length c1] w fun e w' => e = .returned (.bool r) ∧ Drawn0 w w' := by
 have HR0 := Aside0.mk hr0
 have HC0 := Aside0.mk hc0
 clear hr0 hc0
 have HR1 := Aside0.mk hr1
 have HC1 := Aside0.mk hc1
 clear hr1 hc1
 have H : (if (l0.length : Int) = (l1.length : Int) then (laws_sameTexts.l0 k l0 l1 (l0.length : Int) 0) else (some false)) = some r := h
 clear h
 by_cases c3 : (l0.length : Int) = (l1.length : Int)
 ·rw [if_pos c3] at H
  have c3b0 : ((l0.length : Int) == (l1.length : Int)) = true := beq_iff_eq.mpr c3
  have c3b1 : ((l0.length : Int) != (l1.length : Int)) = false := bne_eq_false_iff_eq.mpr c3
  have c3b2 : (l0.length == l1.length) = true := by first | simpa using c3 | (simp at c3 ⊢; omega)
  clear c3
  have H' := Aside0.mk H
  clear H
  go_enter Try.func20, Try.ntmps20
  go_wp2
  repeat (go_quiet (fail); try go_wp2)
  go_loopg [13] k (fun kq v13 w' => ∃ (x13_1 : Int), v13 = .int .i64 x13_1 ∧ Aside0 (laws_sameTexts.l0 kq l0 l1 (l0.length : Int) x13_1 = some r) ∧ Aside0 (kq ≤ k) ∧ Drawn0 w w')
  case atStart => exact ⟨(0), (by first | rfl | (simp; done) | (simp [*]; done)), H', ⟨Nat.le_refl _⟩, by repeat (first | exact Drawn0.refl _ | apply Drawn0.step)⟩
  case round =>
   clear H'
   try clear c1
   try clear c2
   try clear p2
   try clear c3
   try clear c3b0
   try clear c3b1
   try clear c3b2
   obtain ⟨x13_1, rfl, HA, HK1, ⟨m1, rfl⟩⟩ := hrel
   cases gk with
   | zero => exact absurd HA.out (by simp [laws_sameTexts.l0])
   | succ k1 =>
    have H := HA.out
    clear HA
    simp only [laws_sameTexts.l0] at H
    by_cases c4 : x13_1 < (l0.length : Int)
    ·rw [if_pos c4] at H
     have c4b0 : decide (x13_1 < (l0.length : Int)) = true := decide_eq_true c4
     clear c4
     by_cases c5 : 0 ≤ x13_1
     ·rw [if_pos c5] at H
      have c5b0 : decide (0 ≤ x13_1) = true := decide_eq_true c5
      clear c5
      by_cases c6 : x13_1 < (l0.length : Int)
      ·rw [if_pos c6] at H
       have c6b0 : decide (x13_1 < (l0.length : Int)) = true := decide_eq_true c6
       clear c6
       by_cases c7 : x13_1 < (l1.length : Int)
       ·rw [if_pos c7] at H
        have c7b0 : decide (x13_1 < (l1.length : Int)) = true := decide_eq_true c7
        clear c7
        by_cases c8 : (rdOf ByteArray.empty l0 x13_1).toList = (rdOf ByteArray.empty l1 x13_1).toList
        ·rw [if_pos c8] at H
         have c8b0 : ((rdOf ByteArray.empty l0 x13_1).toList == (rdOf ByteArray.empty l1 x13_1).toList) = true := beq_iff_eq.mpr c8
         have c8b1 : ((rdOf ByteArray.empty l0 x13_1).toList != (rdOf ByteArray.empty l1 x13_1).toList) = false := bne_eq_false_iff_eq.mpr c8
         clear c8
         have H' := Aside0.mk H
         clear H
         have p505 : 0 ≤ (x13_1 : Int) := of_decide_eq_true (by first | (with_reducible assumption) | assumption)
         have q505 : x13_1 < (l0.length : Int) := of_decide_eq_true (by first | (with_reducible assumption) | assumption)
         obtain ⟨ad505, e505, hx505_0⟩ := Kd.at_string HR0.out x13_1 p505 q505
         cases e505
         replace p505 := eq_true p505
         replace q505 := eq_true q505
         have p506 : 0 ≤ (x13_1 : Int) := of_decide_eq_true (by first | (with_reducible assumption) | assumption)
         have q506 : x13_1 < (l1.length : Int) := of_decide_eq_true (by first | (with_reducible assumption) | assumption)
         obtain ⟨ad506, e506, hx506_0⟩ := Kd.at_string HR1.out x13_1 p506 q506
         cases e506
         replace p506 := eq_true p506
         replace q506 := eq_true q506
         go_wp2
         repeat (go_quiet (fail); try go_wp2)
         go_roundg k1
         case measure => have := HK1.out; omega
         case rel => exact ⟨(wrap64 (x13_1 + 1)), (by first | rfl | (simp; done) | (simp [*]; done)), H', ⟨by have := HK1.out; omega⟩, by repeat (first | exact Drawn0.refl _ | apply Drawn0.step)⟩
        ·rw [if_neg c8] at H
         have c8b0 : ((rdOf ByteArray.empty l0 x13_1).toList == (rdOf ByteArray.empty l1 x13_1).toList) = false := beq_eq_false_iff_ne.mpr c8
         have c8b1 : ((rdOf ByteArray.empty l0 x13_1).toList != (rdOf ByteArray.empty l1 x13_1).toList) = true := bne_iff_ne.mpr c8
         obtain rfl := Option.some.inj H
         have p505 : 0 ≤ (x13_1 : Int) := of_decide_eq_true (by first | (with_reducible assumption) | assumption)
         have q505 : x13_1 < (l0.length : Int) := of_decide_eq_true (by first | (with_reducible assumption) | assumption)
         obtain ⟨ad505, e505, hx505_0⟩ := Kd.at_string HR0.out x13_1 p505 q505
         cases e505
         replace p505 := eq_true p505
         replace q505 := eq_true q505
         have p506 : 0 ≤ (x13_1 : Int) := of_decide_eq_true (by first | (with_reducible assumption) | assumption)
         have q506 : x13_1 < (l1.length : Int) := of_decide_eq_true (by first | (with_reducible assumption) | assumption)
         obtain ⟨ad506, e506, hx506_0⟩ := Kd.at_string HR1.out x13_1 p506 q506
         cases e506
         replace p506 := eq_true p506
         replace q506 := eq_true q506
         go_wp2
         repeat (go_quiet (fail); try go_wp2)
         go_ret
         exact ⟨by first | rfl | (simp; done) | (simp [*]; done), by repeat (first | exact Drawn0.refl _ | apply Drawn0.step)⟩
       ·rw [if_neg c7] at H
        exact absurd H (by simp)
      ·rw [if_neg c6] at H
       exact absurd H (by simp)
     ·rw [if_neg c5] at H
      exact absurd H (by simp)
    ·rw [if_neg c4] at H
     have c4b0 : decide (x13_1 < (l0.length : Int)) = false := decide_eq_false c4
     clear c4
     obtain rfl := Option.some.inj H
     go_wp2
     repeat (go_quiet (fail); try go_wp2)
     go_ret
     exact ⟨by first | rfl | (simp; done) | (simp [*]; done), by repeat (first | exact Drawn0.refl _ | apply Drawn0.step)⟩
 ·rw [if_neg c3] at H
  have c3b0 : ((l0.length : Int) == (l1.length : Int)) = false := beq_eq_false_iff_ne.mpr c3
  have c3b1 : ((l0.length : Int) != (l1.length : Int)) = true := bne_iff_ne.mpr c3
  have c3b2 : (l0.length == l1.length) = false := by first | simpa using c3 | (simp at c3 ⊢; omega)
  obtain rfl := Option.some.inj H
  go_enter Try.func20, Try.ntmps20
  go_wp2
  repeat (go_quiet (fail); try go_wp2)
  go_ret
  exact ⟨by first | rfl | (simp; done) | (simp [*]; done), by repeat (first | exact Drawn0.refl _ | apply Drawn0.step)⟩

end Go.Proofs.Ytfopmaiednikhaa.PFnScanned
