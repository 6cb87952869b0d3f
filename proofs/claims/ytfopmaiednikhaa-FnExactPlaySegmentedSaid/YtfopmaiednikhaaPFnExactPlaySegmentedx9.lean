-- written by a program of this session (wip/tool)
import Derived.Test.YtfopmaiednikhaaPFnExactPlaySegmentedx0
import Derived.Test.YtfopmaiednikhaaPFnExactPlaySegmentedx5
import Derived.Test.YtfopmaiednikhaaPFnExactPlaySegmentedx6
import Derived.Test.YtfopmaiednikhaaPFnExactPlaySegmentedx7
import Derived.Test.YtfopmaiednikhaaVOwn0
import Derived.Test.YtfopmaiednikhaaVOwnOpen
import Derived.WalkKit
import Derived.BigCall
import Derived.Lib.SliceRun
import Derived.Deep.RegionLaw
import Derived.Maps.OwnSet
import Derived.Maps.OwnOps
import Derived.Maps.Views
import Derived.Test.YtfopmaiednikhaaVWZeros
import Derived.Test.YtfopmaiednikhaaVWArr
import Derived.Test.YtfopmaiednikhaaVOwnShort
namespace Go.Proofs.Ytfopmaiednikhaa.PFnExactPlaySegmented
open Go.RowKit Go.Proofs.YtfopmaiednikhaaW.PrintWords Go.Proofs.YtfopmaiednikhaaW.PrintLast Go.Proofs.YtfopmaiednikhaaW.PrintMore Go.Shelf Go.Proofs.YtfopmaiednikhaaOwn
attribute [local go_sem] max2_int min2_int max_two min_two max_three min_three max_four min_four   -- for this text's walks alone
set_option linter.unusedVariables false
set_option linter.unusedSimpArgs false

/-! ### spec_l12Get: function 57 -/
def spec_l12Get.f (k : Nat) (a0_0 : Int) (a0_1 : Int) (l0_2 : List (S45)) (l0_3 : List (S45)) (a1 : ByteArray) : Option (Int × Int × (List (S45)) × (List (S45)) × ByteArray × Bool) := (spec_l12At.f k l0_3 a1).bind fun t364 => (if t364 ≥ 0 then (if 0 ≤ t364 then (if t364 < (l0_3.length : Int) then ((spec_l12Without.f l0_3 t364).bind fun t367 => ((spec_l12Ahead.f t367 ((rd_T45 l0_3 t364).f0) ((rd_T45 l0_3 t364).f1)).bind fun t370 => (some (a0_0, a0_1, l0_2, t370, (rd_T45 l0_3 t364).f1, true)))) else (none)) else (none)) else ((spec_l12At.f k l0_2 a1).bind fun t373 => (if t373 < 0 then (some (a0_0, a0_1, l0_2, l0_3, (⟨#[]⟩ : ByteArray), false)) else (if 0 ≤ t373 then (if t373 < (l0_2.length : Int) then ((spec_l12Without.f l0_2 t373).bind fun t376 => ((spec_l12Ahead.f l0_3 ((rd_T45 l0_2 t373).f0) ((rd_T45 l0_2 t373).f1)).bind fun t379 => ((spec_l12Fit.f k a0_0 a0_1 t376 t379).bind fun bt382 => (some (bt382.1, bt382.2.1, bt382.2.2.1, bt382.2.2.2.1, (rd_T45 l0_2 t373).f1, true))))) else (none)) else (none)))))
theorem spec_l12Get.mono : ∀ a0 a1 a2 a3 a4 k, LeO (spec_l12Get.f k a0 a1 a2 a3 a4) (spec_l12Get.f (k + 1) a0 a1 a2 a3 a4) := by
 intro a0 a1 a2 a3 a4 k
 unfold spec_l12Get.f
 repeat' first
   | (with_reducible exact spec_l12At.mono _ _ _)
   | (with_reducible exact spec_l12Fit.mono _ _ _ _ _)
   | (with_reducible exact LeO.refl _)
   | (with_reducible exact LeO.none _)
   | (with_reducible refine LeO.ite ?_ ?_)
   | (with_reducible refine LeO.bind ?_ (fun _ => ?_))
   | exact spec_l12At.mono _ _ _
   | exact spec_l12Fit.mono _ _ _ _ _
   | exact LeO.none _
   | refine LeO.ite ?_ ?_
   | refine LeO.bind ?_ (fun _ => ?_)
def spec_l12Get.T4 : Bool × List (List Nat × List Nat) := (true, [([], []), ([0], [0]), ([], []), ([1, 2], [1, 2]), ([], []), ([3, 4, 3], [3, 4]), ([0, 1, 2, 3, 4, 5], []), ([6, 5, 5, 0, 1, 2, 3, 4, 5], [5, 6])])
def spec_l12Get.B4 : List Nat := [0, 1, 0, 7, 0, 31, 63, 127]
theorem spec_l12Get.tab4 : rtab .any (opsOf Try.f57 4) = spec_l12Get.T4 := by kernel_rfl
theorem spec_l12Get.bits4 : waitsOk spec_l12Get.T4.2 spec_l12Get.B4 = true := by kernel_rfl
set_option maxHeartbeats 8000000 in
set_option maxRecDepth 100000 in
theorem spec_l12Get.calls (k : Nat) (a0_0 : Int) (a0_1 : Int) (P0_2_ : Nat → Prop) (u9000_ : Value) (l0_2 : List (S45)) (P0_3_ : Nat → Prop) (u9001_ : Value) (l0_3 : List (S45)) (a1 : ByteArray) (r1 : Int) (r2 : Int) (r3 : List (S45)) (r4 : List (S45)) (r5 : ByteArray) (r6 : Bool) (w0 w : World) (hB : Below w0.heap.size w0 w) (ho0_2 : Kd.R k45 45 w w0.heap.size P0_2_ u9000_ l0_2) (hp0_2_0_3 : ∀ k_, P0_2_ k_ → ¬ P0_3_ k_) (ho0_3 : Kd.R k45 45 w w0.heap.size P0_3_ u9001_ l0_3) (hp0_3_0_2 : ∀ k_, P0_3_ k_ → ¬ P0_2_ k_) (h : spec_l12Get.f k a0_0 a0_1 l0_2 l0_3 a1 = some (r1, r2, r3, r4, r5, r6)) :
  Calls Try.prog 57 #[.agg #[.int .i64 a0_0, .int .i64 a0_1, u9000_, u9001_], .string a1] w fun e w' => ∃ v2_ v3_ : Value, e = .returned (.tuple #[.agg #[.int .i64 r1, .int .i64 r2, v2_, v3_], .string r5, .bool r6]) ∧ Kd.R k45 45 w' w0.heap.size (fun k_ => ((P0_2_ k_ ∨ P0_3_ k_) ∨ w.heap.size ≤ k_) ∧ some k_ ≠ (v3_ : Value).ownBlock) v2_ r3 ∧ Kd.R k45 45 w' w0.heap.size (fun k_ => ((P0_2_ k_ ∨ P0_3_ k_) ∨ w.heap.size ≤ k_) ∧ some k_ ≠ (v2_ : Value).ownBlock) v3_ r4 ∧ Below w0.heap.size w0 w' ∧ Kept w w' (fun k_ => P0_2_ k_ ∨ P0_3_ k_) := by
 have hu28 := Try.underlying28
 have hu45 := Try.underlying45
 have HO0_2 := Aside0.mk (show Kd.R k45 45 w w0.heap.size (fun k_ => ((P0_2_ k_ ∨ P0_3_ k_) ∨ w.heap.size ≤ k_) ∧ some k_ ≠ (u9001_ : Value).ownBlock) u9000_ l0_2 from Kd.R_mono ho0_2 (fun k_ hk => ⟨(.inl (.inl hk)), fun e_ => hp0_2_0_3 k_ hk (ho0_3.1 k_ e_.symm)⟩))
 have HO0_3 := Aside0.mk (show Kd.R k45 45 w w0.heap.size (fun k_ => ((P0_2_ k_ ∨ P0_3_ k_) ∨ w.heap.size ≤ k_) ∧ some k_ ≠ (u9000_ : Value).ownBlock) u9001_ l0_3 from Kd.R_mono ho0_3 (fun k_ hk => ⟨(.inl (.inr hk)), fun e_ => hp0_3_0_2 k_ hk (ho0_2.1 k_ e_.symm)⟩))
 have HK := Aside0.mk (Kept.refl w (fun k_ => P0_2_ k_ ∨ P0_3_ k_))
 have HW0 := Aside0.mk hB.size
 have HB := Aside0.mk hB
 clear hB
 have H : ((spec_l12At.f k l0_3 a1).bind fun t364 => (if t364 ≥ 0 then (if 0 ≤ t364 then (if t364 < (l0_3.length : Int) then ((spec_l12Without.f l0_3 t364).bind fun t367 => ((spec_l12Ahead.f t367 ((rd_T45 l0_3 t364).f0) ((rd_T45 l0_3 t364).f1)).bind fun t370 => (some (a0_0, a0_1, l0_2, t370, (rd_T45 l0_3 t364).f1, true)))) else (none)) else (none)) else ((spec_l12At.f k l0_2 a1).bind fun t373 => (if t373 < 0 then (some (a0_0, a0_1, l0_2, l0_3, (⟨#[]⟩ : ByteArray), false)) else (if 0 ≤ t373 then (if t373 < (l0_2.length : Int) then ((spec_l12Without.f l0_2 t373).bind fun t376 => ((spec_l12Ahead.f l0_3 ((rd_T45 l0_2 t373).f0) ((rd_T45 l0_2 t373).f1)).bind fun t379 => ((spec_l12Fit.f k a0_0 a0_1 t376 t379).bind fun bt382 => (some (bt382.1, bt382.2.1, bt382.2.2.1, bt382.2.2.2.1, (rd_T45 l0_2 t373).f1, true))))) else (none)) else (none)))))) = some (r1, r2, r3, r4, r5, r6) := h
 clear h
 replace H := Option.bind_eq_some_iff.mp H
 obtain ⟨t364, A30, H⟩ := H
 try dsimp only at H
 have A3 := Aside0.mk A30
 clear A30
 by_cases c4 : t364 ≥ 0
 ·rw [if_pos c4] at H
  have c4b0 : decide (0 ≤ t364) = true := decide_eq_true c4
  clear c4
  by_cases c5 : 0 ≤ t364
  ·rw [if_pos c5] at H
   have c5b0 : decide (0 ≤ t364) = true := decide_eq_true c5
   clear c5
   by_cases c6 : t364 < (l0_3.length : Int)
   ·rw [if_pos c6] at H
    have c6b0 : decide (t364 < (l0_3.length : Int)) = true := decide_eq_true c6
    clear c6
    replace H := Option.bind_eq_some_iff.mp H
    obtain ⟨t367, A70, H⟩ := H
    try dsimp only at H
    have A7 := Aside0.mk A70
    clear A70
    replace H := Option.bind_eq_some_iff.mp H
    obtain ⟨t370, A80, H⟩ := H
    try dsimp only at H
    have A8 := Aside0.mk A80
    clear A80
    simp only [Option.some.injEq, Prod.mk.injEq] at H
    obtain ⟨rfl, rfl, rfl, rfl, rfl, rfl⟩ := H
    obtain ⟨Ao9, co9, eo9⟩ := Kd.R_slice HO0_2.out
    subst eo9
    obtain ⟨Ao10, co10, eo10⟩ := Kd.R_slice HO0_3.out
    subst eo10
    go_enter Try.func57, Try.ntmps57
    try go_wp2_with (first | ((with_reducible refine gate_dst (N := 2) rfl ?_); refine box_event ?hg (N := 2) ?hd (cs := #[.int .i64 a0_0, .int .i64 a0_1, .slice Ao9 l0_2.length co9, .slice Ao10 l0_3.length co10]) (t := 28) ?hr ?_; (case hd => rfl); (case hg => rfl); (case hr => first | (go_simp; done) | (go_simp; rfl)); intro gb362 hg w11 hbox hb; have n0_ := Aside0.mk (Kd.R_below (kr HO0_2.out) hb); have n1_ := Aside0.mk (Kd.R_below (kr HO0_3.out) hb); have n2_ := Aside0.mk (Kept.below (S := (fun k_ => P0_2_ k_ ∨ P0_3_ k_)) (by repeat (first | (with_reducible first | exact HK.out | apply Kept.alloc | apply Kept.drewN | apply Kept.drew) | exact HK.out)) hb); have n3_ := Aside0.mk (below_step (bl HB.out) hb); have n4_ := Aside0.mk (hbox); have n5_ := Aside0.mk ((by rw [hg]; exact (by first | exact HK.out.1 | exact (show Kept w _ (fun k_ => P0_2_ k_ ∨ P0_3_ k_) from by repeat (first | (with_reducible first | exact HK.out | apply Kept.alloc | apply Kept.drewN | apply Kept.drew) | exact HK.out)).1) : w.heap.size ≤ gb362)); have n6_ := Aside0.mk ((by rw [hg]; exact (below_size (bl HB.out)) : w0.heap.size ≤ gb362)); clear HO0_2; clear HO0_3; clear HK; clear HB; have HO0_2 := n0_; have HO0_3 := n1_; have HK := n2_; have HB := n3_; have BK362 := n4_; have GW362 := n5_; have GE362 := n6_; clear n0_ n1_ n2_ n3_ n4_ n5_ n6_; clear hb hbox hg) | ((with_reducible refine gate_dst (N := 4) rfl ?_); refine box_event ?hg (N := 4) ?hd (cs := #[.int .i64 0, .int .i64 0, .slice none 0 0, .slice none 0 0]) (t := 28) ?hr ?_; (case hd => rfl); (case hg => rfl); (case hr => first | (go_simp; done) | (go_simp; rfl)); intro gb363 hg w12 hbox hb; have n0_ := Aside0.mk (Kd.R_below (kr HO0_2.out) hb); have n1_ := Aside0.mk (Kd.R_below (kr HO0_3.out) hb); have n2_ := Aside0.mk (blk_below (bk BK362.out) hb); have n3_ := Aside0.mk (Kept.below (S := (fun k_ => P0_2_ k_ ∨ P0_3_ k_)) (by repeat (first | (with_reducible first | exact HK.out | apply Kept.alloc | apply Kept.drewN | apply Kept.drew | refine Kept.setCell ?_ (.inr GW362.out) _) | exact HK.out)) hb); have n4_ := Aside0.mk (below_step (bl1 HB.out GE362.out) hb); have n5_ := Aside0.mk (hbox); have n6_ := Aside0.mk ((by rw [hg]; exact (by first | exact HK.out.1 | exact (show Kept w _ (fun k_ => P0_2_ k_ ∨ P0_3_ k_) from by repeat (first | (with_reducible first | exact HK.out | apply Kept.alloc | apply Kept.drewN | apply Kept.drew | refine Kept.setCell ?_ (.inr GW362.out) _) | exact HK.out)).1) : w.heap.size ≤ gb363)); have n7_ := Aside0.mk ((by rw [hg]; exact (below_size (bl1 HB.out GE362.out)) : w0.heap.size ≤ gb363)); have n8_ := Aside0.mk ((by rw [hg]; exact Nat.ne_of_lt (blk_lt (bk BK362.out)) : gb362 ≠ gb363)); have n9_ := Aside0.mk ((by rw [hg]; exact Nat.ne_of_gt (blk_lt (bk BK362.out)) : gb363 ≠ gb362)); clear HO0_2; clear HO0_3; clear BK362; clear HK; clear HB; have HO0_2 := n0_; have HO0_3 := n1_; have BK362 := n2_; have HK := n3_; have HB := n4_; have BK363 := n5_; have GW363 := n6_; have GE363 := n7_; have NB362_363 := n8_; have NB363_362 := n9_; clear n0_ n1_ n2_ n3_ n4_ n5_ n6_ n7_ n8_ n9_; clear hb hbox hg; have hnb13 := NB362_363.out; have hnc13 := NB363_362.out; have hcz14_0 := bc0 BK362.out; have hcz14_1 := bc1 BK362.out; have hcz14_2 := bc2 BK362.out; have hcz14_3 := bc3 BK362.out; have hfz14_0 := blk_frozen BK362.out 0; have hfz14_1 := blk_frozen BK362.out 1; have hfz14_2 := blk_frozen BK362.out 2; have hfz14_3 := blk_frozen BK362.out 3) | ((with_reducible refine gate_callee (f := 43) rfl ?_); refine goesL_ (some 14) rfl rfl Try.func43 (by kernel_rfl) rfl #[.slice Ao10 l0_3.length co10, .string a1] rfl (by (try simp only [List.map_toArray, List.map_cons, List.map_nil]); first | done | rfl | (simp only [List.length_drop, List.length_take]; rfl)) ?_; (with_reducible refine (spec_l12At.calls k _ _ l0_3 a1 t364 _ ?side1 ?side2 A3.out).mono ?_); (case side1 => exact kc (Kd.R_reads' HO0_3.out).2.2); (case side2 => exact (Kd.R_reads' HO0_3.out).2.1); rintro e w15 ⟨rfl, hb⟩; refine ⟨_, rfl, ?_⟩; have n0_ := Aside0.mk (Kd.R_below (kr HO0_2.out) hb); have n1_ := Aside0.mk (Kd.R_below (kr HO0_3.out) hb); have n2_ := Aside0.mk (blk_below (bk BK362.out) hb); have n3_ := Aside0.mk (blk_below (bk BK363.out) hb); have n4_ := Aside0.mk (Kept.below (S := (fun k_ => P0_2_ k_ ∨ P0_3_ k_)) (by repeat (first | (with_reducible first | exact HK.out | apply Kept.alloc | apply Kept.drewN | apply Kept.drew | refine Kept.setCell ?_ (.inr GW362.out) _ | refine Kept.setCell ?_ (.inr GW363.out) _) | exact HK.out)) hb); have n5_ := Aside0.mk (below_step (bl2 HB.out GE362.out GE363.out) hb); clear HO0_2; clear HO0_3; clear BK362; clear BK363; clear HK; clear HB; have HO0_2 := n0_; have HO0_3 := n1_; have BK362 := n2_; have BK363 := n3_; have HK := n4_; have HB := n5_; clear n0_ n1_ n2_ n3_ n4_ n5_; (try clear hb); (try clear hb2); (try clear hk); (try clear hi); have hcz16_0 := bc0 BK362.out; have hcz16_1 := bc1 BK362.out; have hcz16_2 := bc2 BK362.out; have hcz16_3 := bc3 BK362.out; have hfz16_0 := blk_frozen BK362.out 0; have hfz16_1 := blk_frozen BK362.out 1; have hfz16_2 := blk_frozen BK362.out 2; have hfz16_3 := blk_frozen BK362.out 3; have p365 : 0 ≤ (t364 : Int) := of_decide_eq_true (by first | (with_reducible assumption) | assumption); have q365 : t364 < (l0_3.length : Int) := of_decide_eq_true (by first | (with_reducible assumption) | assumption); obtain ⟨ad365, e365, hx365_0, hx365_1⟩ := at_T45 (Kd.R_reads' HO0_3.out).2.2 t364 p365 q365; cases e365; replace p365 := eq_true p365; replace q365 := eq_true q365) | ((with_reducible refine gate_dst (N := 8) rfl ?_); refine box_event ?hg (N := 8) ?hd (cs := #[.string (⟨#[]⟩ : ByteArray), .string (⟨#[]⟩ : ByteArray)]) (t := 45) ?hr ?_; (case hd => rfl); (case hg => rfl); (case hr => first | (go_simp; done) | (go_simp; rfl)); intro gb366 hg w17 hbox hb; have n0_ := Aside0.mk (Kd.R_below (Kd.R_elderB (kr HO0_2.out) gb366 (Nat.le_of_eq hg.symm)) hb); have n1_ := Aside0.mk (Kd.R_below (Kd.R_elderB (kr HO0_3.out) gb366 (Nat.le_of_eq hg.symm)) hb); have n2_ := Aside0.mk (blk_below (bk BK362.out) hb); have n3_ := Aside0.mk (blk_below (bk BK363.out) hb); have n4_ := Aside0.mk (Kept.below (S := (fun k_ => P0_2_ k_ ∨ P0_3_ k_)) (by repeat (first | (with_reducible first | exact HK.out | apply Kept.alloc | apply Kept.drewN | apply Kept.drew | refine Kept.setCell ?_ (.inr GW362.out) _ | refine Kept.setCell ?_ (.inr GW363.out) _) | exact HK.out)) hb); have n5_ := Aside0.mk (below_step (bl2 HB.out GE362.out GE363.out) hb); have n6_ := Aside0.mk (hbox); have n7_ := Aside0.mk ((by rw [hg]; exact (by first | exact HK.out.1 | exact (show Kept w _ (fun k_ => P0_2_ k_ ∨ P0_3_ k_) from by repeat (first | (with_reducible first | exact HK.out | apply Kept.alloc | apply Kept.drewN | apply Kept.drew | refine Kept.setCell ?_ (.inr GW362.out) _ | refine Kept.setCell ?_ (.inr GW363.out) _) | exact HK.out)).1) : w.heap.size ≤ gb366)); have n8_ := Aside0.mk ((by rw [hg]; exact (below_size (bl2 HB.out GE362.out GE363.out)) : w0.heap.size ≤ gb366)); have n9_ := Aside0.mk ((by rw [hg]; exact Nat.ne_of_lt (blk_lt (bk BK362.out)) : gb362 ≠ gb366)); have n10_ := Aside0.mk ((by rw [hg]; exact Nat.ne_of_gt (blk_lt (bk BK362.out)) : gb366 ≠ gb362)); have n11_ := Aside0.mk ((by rw [hg]; exact Nat.ne_of_lt (blk_lt (bk BK363.out)) : gb363 ≠ gb366)); have n12_ := Aside0.mk ((by rw [hg]; exact Nat.ne_of_gt (blk_lt (bk BK363.out)) : gb366 ≠ gb363)); clear HO0_2; clear HO0_3; clear BK362; clear BK363; clear HK; clear HB; have HO0_2 := n0_; have HO0_3 := n1_; have BK362 := n2_; have BK363 := n3_; have HK := n4_; have HB := n5_; have BK366 := n6_; have GW366 := n7_; have GE366 := n8_; have NB362_366 := n9_; have NB366_362 := n10_; have NB363_366 := n11_; have NB366_363 := n12_; clear n0_ n1_ n2_ n3_ n4_ n5_ n6_ n7_ n8_ n9_ n10_ n11_ n12_; clear hb hbox hg; have hnb18 := NB366_362.out; have hnc18 := NB362_366.out; have hnb19 := NB366_363.out; have hnc19 := NB363_366.out; have hcz20_0 := bc0 BK366.out; have hcz20_1 := bc1 BK366.out; have hfz20_0 := blk_frozen BK366.out 0; have hfz20_1 := blk_frozen BK366.out 1))
    have n0_ : Aside0 (Kd.R k45 45 ((w17.setCell ⟨gb366, 0, none⟩ (.string ((rd_T45 l0_3 t364).f0))).setCell ⟨gb366, 1, none⟩ (.string ((rd_T45 l0_3 t364).f1))) w0.heap.size (fun k_ => ((P0_2_ k_ ∨ P0_3_ k_) ∨ w.heap.size ≤ k_) ∧ some k_ ≠ (.slice (some ad365) l0_3.length co10 : Value).ownBlock ∧ k_ ≠ gb366) (.slice Ao9 l0_2.length co9) l0_2) := ⟨by (with_reducible repeat (first | apply Kd.R_alloc | apply Kd.R_drewN | apply Kd.R_drew)); exact Kd.R_mono (Kd.R_far (p := ⟨gb366, 1, none⟩) (Kd.R_far (p := ⟨gb366, 0, none⟩) (Kd.R_mono HO0_2.out (fun k_ hk => (⟨hk, hk.2⟩ : _ ∧ k_ ≠ gb366))) (fun _ hk => hk.2) (.string ((rd_T45 l0_3 t364).f0))) (fun _ hk => hk.2) (.string ((rd_T45 l0_3 t364).f1))) (fun _ hk => ⟨hk.1.1.1, ⟨hk.1.1.2, hk.1.2⟩⟩)⟩
    have n1_ : Aside0 (Kd.R k45 45 ((w17.setCell ⟨gb366, 0, none⟩ (.string ((rd_T45 l0_3 t364).f0))).setCell ⟨gb366, 1, none⟩ (.string ((rd_T45 l0_3 t364).f1))) w0.heap.size (fun k_ => ((P0_2_ k_ ∨ P0_3_ k_) ∨ w.heap.size ≤ k_) ∧ some k_ ≠ (.slice Ao9 l0_2.length co9 : Value).ownBlock ∧ k_ ≠ gb366) (.slice (some ad365) l0_3.length co10) l0_3) := ⟨by (with_reducible repeat (first | apply Kd.R_alloc | apply Kd.R_drewN | apply Kd.R_drew)); exact Kd.R_mono (Kd.R_far (p := ⟨gb366, 1, none⟩) (Kd.R_far (p := ⟨gb366, 0, none⟩) (Kd.R_mono HO0_3.out (fun k_ hk => (⟨hk, hk.2⟩ : _ ∧ k_ ≠ gb366))) (fun _ hk => hk.2) (.string ((rd_T45 l0_3 t364).f0))) (fun _ hk => hk.2) (.string ((rd_T45 l0_3 t364).f1))) (fun _ hk => ⟨hk.1.1.1, ⟨hk.1.1.2, hk.1.2⟩⟩)⟩
    have n2_ : Aside0 (((w17.setCell ⟨gb366, 0, none⟩ (.string ((rd_T45 l0_3 t364).f0))).setCell ⟨gb366, 1, none⟩ (.string ((rd_T45 l0_3 t364).f1))).heap[gb362]? = some (.cells #[.int .i64 a0_0, .int .i64 a0_1, .slice Ao9 l0_2.length co9, .slice (some ad365) l0_3.length co10] 28 (0, 0))) := ⟨by (with_reducible repeat (first | refine blk_drewN ?_ _ | refine blk_drew ?_ | refine blk_alloc ?_ _)); refine blk_far ?_ NB362_366.out _; (with_reducible repeat (first | refine blk_drewN ?_ _ | refine blk_drew ?_ | refine blk_alloc ?_ _)); refine blk_far ?_ NB362_366.out _; exact bk BK362.out⟩
    have n3_ : Aside0 (((w17.setCell ⟨gb366, 0, none⟩ (.string ((rd_T45 l0_3 t364).f0))).setCell ⟨gb366, 1, none⟩ (.string ((rd_T45 l0_3 t364).f1))).heap[gb363]? = some (.cells #[.int .i64 0, .int .i64 0, .slice none 0 0, .slice none 0 0] 28 (0, 0))) := ⟨by (with_reducible repeat (first | refine blk_drewN ?_ _ | refine blk_drew ?_ | refine blk_alloc ?_ _)); refine blk_far ?_ NB363_366.out _; (with_reducible repeat (first | refine blk_drewN ?_ _ | refine blk_drew ?_ | refine blk_alloc ?_ _)); refine blk_far ?_ NB363_366.out _; exact bk BK363.out⟩
    have n4_ : Aside0 (((w17.setCell ⟨gb366, 0, none⟩ (.string ((rd_T45 l0_3 t364).f0))).setCell ⟨gb366, 1, none⟩ (.string ((rd_T45 l0_3 t364).f1))).heap[gb366]? = some (.cells #[.string ((rd_T45 l0_3 t364).f0), .string ((rd_T45 l0_3 t364).f1)] 45 (0, 0))) := ⟨by (with_reducible repeat (first | refine blk_drewN ?_ _ | refine blk_drew ?_ | refine blk_alloc ?_ _)); refine blk_put (cs := #[.string ((rd_T45 l0_3 t364).f0), .string (⟨#[]⟩ : ByteArray)]) ?_ 1 _ rfl; (with_reducible repeat (first | refine blk_drewN ?_ _ | refine blk_drew ?_ | refine blk_alloc ?_ _)); refine blk_put (cs := #[.string (⟨#[]⟩ : ByteArray), .string (⟨#[]⟩ : ByteArray)]) ?_ 0 _ rfl; exact bk BK366.out⟩
    have n5_ : Aside0 (Kept w ((w17.setCell ⟨gb366, 0, none⟩ (.string ((rd_T45 l0_3 t364).f0))).setCell ⟨gb366, 1, none⟩ (.string ((rd_T45 l0_3 t364).f1))) (fun k_ => P0_2_ k_ ∨ P0_3_ k_)) := ⟨by repeat (first | (with_reducible first | exact HK.out | apply Kept.alloc | apply Kept.drewN | apply Kept.drew | refine Kept.setCell ?_ (.inr GW362.out) _ | refine Kept.setCell ?_ (.inr GW363.out) _ | refine Kept.setCell ?_ (.inr GW366.out) _) | exact HK.out)⟩
    have n6_ : Aside0 (Below w0.heap.size w0 ((w17.setCell ⟨gb366, 0, none⟩ (.string ((rd_T45 l0_3 t364).f0))).setCell ⟨gb366, 1, none⟩ (.string ((rd_T45 l0_3 t364).f1)))) := ⟨bl3 HB.out GE362.out GE363.out GE366.out⟩
    (try clear HO0_2)
    (try clear HO0_3)
    (try clear BK362)
    (try clear BK363)
    (try clear BK366)
    (try clear HK)
    (try clear HB)
    generalize ((w17.setCell ⟨gb366, 0, none⟩ (.string ((rd_T45 l0_3 t364).f0))).setCell ⟨gb366, 1, none⟩ (.string ((rd_T45 l0_3 t364).f1))) = w21 at n0_ n1_ n2_ n3_ n4_ n5_ n6_ ⊢
    have HO0_2 := n0_
    have HO0_3 := n1_
    have BK362 := n2_
    have BK363 := n3_
    have BK366 := n4_
    have HK := n5_
    have HB := n6_
    clear n0_ n1_ n2_ n3_ n4_ n5_ n6_
    have n0_ := Aside0.mk (Kd.R_drew HO0_2.out)
    have n1_ := Aside0.mk (Kd.R_drew HO0_3.out)
    have n2_ := Aside0.mk (blk_drew BK362.out)
    have n3_ := Aside0.mk (blk_drew BK363.out)
    have n4_ := Aside0.mk (blk_drew BK366.out)
    have n5_ := Aside0.mk (Kept.drew HK.out)
    have n6_ := Aside0.mk (below_drew1 HB.out)
    clear HO0_2
    clear HO0_3
    clear BK362
    clear BK363
    clear BK366
    clear HK
    clear HB
    have HO0_2 := n0_
    have HO0_3 := n1_
    have BK362 := n2_
    have BK363 := n3_
    have BK366 := n4_
    have HK := n5_
    have HB := n6_
    clear n0_ n1_ n2_ n3_ n4_ n5_ n6_
    refine start_ (n := 8) (S := fun w' => w'.cell? ⟨gb362, 0, none⟩ = some (.int .i64 a0_0) ∧ w'.cell? ⟨gb362, 1, none⟩ = some (.int .i64 a0_1) ∧ w'.cell? ⟨gb362, 2, none⟩ = some (.slice Ao9 l0_2.length co9) ∧ w'.cell? ⟨gb362, 3, none⟩ = some (.slice (some ad365) l0_3.length co10) ∧ w'.cell? ⟨gb366, 0, none⟩ = some (.string ((rd_T45 l0_3 t364).f0)) ∧ w'.cell? ⟨gb366, 1, none⟩ = some (.string ((rd_T45 l0_3 t364).f1))) (ds := [7]) #[false, false, false, false, false, false, false, false] (by kernel_rfl) rfl rfl ⟨(blk_cell BK362.out 0).trans rfl, (blk_cell BK362.out 1).trans rfl, (blk_cell BK362.out 2).trans rfl, (blk_cell BK362.out 3).trans rfl, (blk_cell BK366.out 0).trans rfl, (blk_cell BK366.out 1).trans rfl⟩ (fun hHeld => ?_); refine with_tabW spec_l12Get.tab4 spec_l12Get.bits4 (fun HT_ HW_ => ?_)
    generalize w21.drew = w22 at HO0_2 HO0_3 BK362 BK363 BK366 HK HB hHeld ⊢
    refine pure_ (i := 0) (N := some 22) (v := ?_) (a' := ?_) #[true, false, false, false, false, false, false, false] rfl rfl (any_of HT_.out (by kernel_rfl)) (fun _ _ _ h => h) (Or.inl ⟨by rfl, ?_⟩) ?_ ?_
    rotate_left
    ·intro w'
     go_simp
     with_reducible rfl
    rotate_left
    ·simp only [Act.put, List.setIfInBounds_toArray, List.set_cons_zero, List.set_cons_succ, i64_w, i32_w]
     rfl
    refine pure_ (i := 2) (N := some 24) (v := ?_) (a' := ?_) #[true, false, true, false, false, false, false, false] rfl rfl (any_of HT_.out (by kernel_rfl)) (fun _ _ _ h => h) (Or.inl ⟨by rfl, ?_⟩) ?_ ?_
    rotate_left
    ·intro w'
     go_simp
     with_reducible rfl
    rotate_left
    ·simp only [Act.put, List.setIfInBounds_toArray, List.set_cons_zero, List.set_cons_succ, i64_w, i32_w]
     rfl
    refine take_ (i := 1) (N := some 23) (v := ?_) (a' := ?_) #[true, true, true, false, false, false, false, false] rfl rfl (take_ofW HT_.out HW_.out (by kernel_rfl)) (fun _ _ _ h => h) (Or.inl ⟨by rfl, ?_⟩) hHeld ?_ ?_
    rotate_left
    ·rintro w' ⟨s0, s1, s2, s3, s4, s5⟩
     go_simp
     with_reducible rfl
    rotate_left
    ·simp only [Act.put, List.setIfInBounds_toArray, List.set_cons_zero, List.set_cons_succ, i64_w, i32_w]
     rfl
    refine take_ (i := 4) (N := some 26) (v := ?_) (a' := ?_) #[true, true, true, false, true, false, false, false] rfl rfl (take_ofW HT_.out HW_.out (by kernel_rfl)) (fun _ _ _ h => h) (Or.inl ⟨by rfl, ?_⟩) hHeld ?_ ?_
    rotate_left
    ·rintro w' ⟨s0, s1, s2, s3, s4, s5⟩
     go_simp
     with_reducible rfl
    rotate_left
    ·simp only [Act.put, List.setIfInBounds_toArray, List.set_cons_zero, List.set_cons_succ, i64_w, i32_w]
     rfl
    refine one_ (i := 3) (N := some 25) #[true, true, true, true, true, false, false, false] rfl rfl (one_of HT_.out (by kernel_rfl)) (by decide) (fun K hK => ?_)
    refine goes_ Try.func44 (by kernel_rfl) rfl #[.slice (some ad365) l0_3.length co10, .int .i64 t364] (by rfl) rfl rfl (by (try simp only [List.map_toArray, List.map_cons, List.map_nil]); first | done | rfl | (simp only [List.length_drop, List.length_take]; rfl)) ?_
    with_reducible refine (spec_l12Without.calls _ _ l0_3 t364 t367 _ ?side1 ?side2 A7.out).mono ?_
    (case side1 => exact kc (Kd.R_reads' HO0_3.out).2.2)
    (case side2 => exact (Kd.R_reads' HO0_3.out).2.1)
    rintro e w23 ⟨v368, rfl, ho0, hb⟩
    refine ⟨_, rfl, ?_⟩
    have n0_ := Aside0.mk (Kd.R_elder' (kr HO0_2.out) (Kd.R_base ho0) hb)
    have n1_ := Aside0.mk (Kd.R_elder' (kr HO0_3.out) (Kd.R_base ho0) hb)
    have n2_ := Aside0.mk (Kd.R_lower (Kd.R_newB (Kd.R_new' (Kd.R_new' (Kd.R_newM (M := fun k_ => ((P0_2_ k_ ∨ P0_3_ k_) ∨ w.heap.size ≤ k_)) ho0 (by first | exact HK.out.1 | exact (show Kept w _ (fun k_ => P0_2_ k_ ∨ P0_3_ k_) from by repeat (first | (with_reducible first | exact HK.out | apply Kept.alloc | apply Kept.drewN | apply Kept.drew | refine Kept.setCell ?_ (.inr GW362.out) _ | refine Kept.setCell ?_ (.inr GW363.out) _ | refine Kept.setCell ?_ (.inr GW366.out) _) | exact HK.out)).1) (fun k_ h_ => .inr h_)) (Kd.R_lt (kr HO0_2.out))) (Kd.R_lt (kr HO0_3.out))) (bk BK366.out)) (below_size (bl3 HB.out GE362.out GE363.out GE366.out)))
    have n3_ := Aside0.mk (blk_below (bk BK362.out) hb)
    have n4_ := Aside0.mk (blk_below (bk BK363.out) hb)
    have n5_ := Aside0.mk (blk_below (bk BK366.out) hb)
    have n6_ := Aside0.mk (Kept.below (S := (fun k_ => P0_2_ k_ ∨ P0_3_ k_)) (by repeat (first | (with_reducible first | exact HK.out | apply Kept.alloc | apply Kept.drewN | apply Kept.drew | refine Kept.setCell ?_ (.inr GW362.out) _ | refine Kept.setCell ?_ (.inr GW363.out) _ | refine Kept.setCell ?_ (.inr GW366.out) _) | exact HK.out)) hb)
    have n7_ := Aside0.mk (below_step (bl3 HB.out GE362.out GE363.out GE366.out) hb)
    clear HO0_2
    clear HO0_3
    clear BK362
    clear BK363
    clear BK366
    clear HK
    clear HB
    have HO0_2 := n0_
    have HO0_3 := n1_
    have HO369 := n2_
    have BK362 := n3_
    have BK363 := n4_
    have BK366 := n5_
    have HK := n6_
    have HB := n7_
    clear n0_ n1_ n2_ n3_ n4_ n5_ n6_ n7_
    (try clear hb)
    (try clear hb2)
    (try clear hk)
    (try clear hi)
    (try clear ho0)
    obtain ⟨Ao24, co24, eo24⟩ := Kd.R_slice HO369.out
    (first | subst eo24 | (injection eo24 with f1_ f2_ f3_; have f4_ := f1_.symm; have f5_ := f3_.symm; clear f1_ f2_ f3_; subst f4_; subst f5_))
    refine hK.out _ _ ⟨(blk_cell BK362.out 0).trans rfl, (blk_cell BK362.out 1).trans rfl, (blk_cell BK362.out 2).trans rfl, (blk_cell BK362.out 3).trans rfl, (blk_cell BK366.out 0).trans rfl, (blk_cell BK366.out 1).trans rfl⟩ (fun hHeld => ?_)
    clear hK K
    refine norm_ (a' := ?_) ?_ ?_
    rotate_left
    ·show Act.put _ (some 25) _ = _
     simp only [Act.put, List.setIfInBounds_toArray, List.set_cons_zero, List.set_cons_succ, i64_w, i32_w]
     rfl
    refine one_ (i := 5) (N := some 27) #[true, true, true, true, true, true, false, false] rfl rfl (one_of HT_.out (by kernel_rfl)) (by decide) (fun K hK => ?_)
    refine goes_ Try.func80 (by kernel_rfl) rfl #[.slice Ao24 t367.length co24, .agg #[.string ((rd_T45 l0_3 t364).f0), .string ((rd_T45 l0_3 t364).f1)]] (by rfl) rfl rfl (by (try simp only [List.map_toArray, List.map_cons, List.map_nil]); first | done | rfl | (simp only [List.length_drop, List.length_take]; rfl)) ?_
    with_reducible refine (spec_l12Ahead.calls _ _ t367 ((rd_T45 l0_3 t364).f0) ((rd_T45 l0_3 t364).f1) t370 _ ?side1 ?side2 A8.out).mono ?_
    (case side1 => exact kc (Kd.R_reads' HO369.out).2.2)
    (case side2 => exact (Kd.R_reads' HO369.out).2.1)
    rintro e w25 ⟨v371, rfl, ho0, hb⟩
    refine ⟨_, rfl, ?_⟩
    have n0_ := Aside0.mk (Kd.R_elder' (kr HO0_2.out) (Kd.R_base ho0) hb)
    have n1_ := Aside0.mk (Kd.R_elder' (kr HO0_3.out) (Kd.R_base ho0) hb)
    have n2_ := Aside0.mk (Kd.R_elder' (kr HO369.out) (Kd.R_base ho0) hb)
    have n3_ := Aside0.mk (Kd.R_lower (Kd.R_newB (Kd.R_new' (Kd.R_new' (Kd.R_new' (Kd.R_newM (M := fun k_ => ((P0_2_ k_ ∨ P0_3_ k_) ∨ w.heap.size ≤ k_)) ho0 (by first | exact HK.out.1 | exact (show Kept w _ (fun k_ => P0_2_ k_ ∨ P0_3_ k_) from by repeat (first | (with_reducible first | exact HK.out | apply Kept.alloc | apply Kept.drewN | apply Kept.drew | refine Kept.setCell ?_ (.inr GW362.out) _ | refine Kept.setCell ?_ (.inr GW363.out) _ | refine Kept.setCell ?_ (.inr GW366.out) _) | exact HK.out)).1) (fun k_ h_ => .inr h_)) (Kd.R_lt (kr HO0_2.out))) (Kd.R_lt (kr HO0_3.out))) (Kd.R_lt (kr HO369.out))) (bk BK366.out)) (below_size (bl3 HB.out GE362.out GE363.out GE366.out)))
    have n4_ := Aside0.mk (blk_below (bk BK362.out) hb)
    have n5_ := Aside0.mk (blk_below (bk BK363.out) hb)
    have n6_ := Aside0.mk (blk_below (bk BK366.out) hb)
    have n7_ := Aside0.mk (Kept.below (S := (fun k_ => P0_2_ k_ ∨ P0_3_ k_)) (by repeat (first | (with_reducible first | exact HK.out | apply Kept.alloc | apply Kept.drewN | apply Kept.drew | refine Kept.setCell ?_ (.inr GW362.out) _ | refine Kept.setCell ?_ (.inr GW363.out) _ | refine Kept.setCell ?_ (.inr GW366.out) _) | exact HK.out)) hb)
    have n8_ := Aside0.mk (below_step (bl3 HB.out GE362.out GE363.out GE366.out) hb)
    clear HO0_2
    clear HO0_3
    clear HO369
    clear BK362
    clear BK363
    clear BK366
    clear HK
    clear HB
    have HO0_2 := n0_
    have HO0_3 := n1_
    have HO369 := n2_
    have HO372 := n3_
    have BK362 := n4_
    have BK363 := n5_
    have BK366 := n6_
    have HK := n7_
    have HB := n8_
    clear n0_ n1_ n2_ n3_ n4_ n5_ n6_ n7_ n8_
    (try clear hb)
    (try clear hb2)
    (try clear hk)
    (try clear hi)
    (try clear ho0)
    obtain ⟨Ao26, co26, eo26⟩ := Kd.R_slice HO372.out
    (first | subst eo26 | (injection eo26 with f1_ f2_ f3_; have f4_ := f1_.symm; have f5_ := f3_.symm; clear f1_ f2_ f3_; subst f4_; subst f5_))
    refine hK.out _ _ ⟨(blk_cell BK362.out 0).trans rfl, (blk_cell BK362.out 1).trans rfl, (blk_cell BK362.out 2).trans rfl, (blk_cell BK362.out 3).trans rfl, (blk_cell BK366.out 0).trans rfl, (blk_cell BK366.out 1).trans rfl⟩ (fun hHeld => ?_)
    clear hK K
    refine norm_ (a' := ?_) ?_ ?_
    rotate_left
    ·show Act.put _ (some 27) _ = _
     simp only [Act.put, List.setIfInBounds_toArray, List.set_cons_zero, List.set_cons_succ, i64_w, i32_w]
     rfl
    refine pure_ (i := 6) (N := some 28) (v := ?_) (a' := ?_) #[true, true, true, true, true, true, true, false] rfl rfl (any_of HT_.out (by kernel_rfl)) (fun _ _ _ h => h) (Or.inl ⟨by rfl, ?_⟩) ?_ ?_
    rotate_left
    ·intro w'
     go_simp
     with_reducible rfl
    rotate_left
    ·simp only [Act.put, List.setIfInBounds_toArray, List.set_cons_zero, List.set_cons_succ, i64_w, i32_w]
     rfl
    refine last_ (i := 7) (N := none) #[true, true, true, true, true, true, true, true] rfl rfl (one_of HT_.out (by kernel_rfl)) (by decide) (fun K hK => ?_)
    have hs27 := bc3 BK362.out
    have hfs27 := blk_frozen BK362.out 3
    have hns27_1 := NB363_362.out
    have hns27_2 := NB366_362.out
    have hms27_1 := NB362_363.out
    have hms27_2 := NB362_366.out
    refine skip_ (w1 := ?_) (by rfl) rfl ?_ ?_
    rotate_left
    ·go_simp
     rfl
    refine hK.out _ _ ?_
    clear hK K
    refine done_ (done_of HT_.out (by kernel_rfl)) ?_
    try go_wp2
    have n0_ : Aside0 (Kd.R k45 45 (w25.setCell ⟨gb362, 3, none⟩ (.slice Ao26 t370.length co26)) w0.heap.size (fun k_ => ((P0_2_ k_ ∨ P0_3_ k_) ∨ w.heap.size ≤ k_) ∧ some k_ ≠ (.slice (some ad365) l0_3.length co10 : Value).ownBlock ∧ some k_ ≠ (.slice Ao24 t367.length co24 : Value).ownBlock ∧ some k_ ≠ (.slice Ao26 t370.length co26 : Value).ownBlock ∧ k_ ≠ gb366) (.slice Ao9 l0_2.length co9) l0_2) := ⟨by (with_reducible repeat (first | apply Kd.R_alloc | apply Kd.R_drewN | apply Kd.R_drew)); exact Kd.R_mono (Kd.R_far (p := ⟨gb362, 3, none⟩) (Kd.R_types HO0_2.out BK362.out (by decide)) (fun _ hk => hk.2) (.slice Ao26 t370.length co26)) (fun _ hk => ⟨hk.1.1.1.1, ⟨hk.1.1.1.2.1, ⟨hk.1.1.2, ⟨hk.1.2, hk.1.1.1.2.2⟩⟩⟩⟩)⟩
    have n1_ : Aside0 (Kd.R k45 45 (w25.setCell ⟨gb362, 3, none⟩ (.slice Ao26 t370.length co26)) w0.heap.size (fun k_ => ((P0_2_ k_ ∨ P0_3_ k_) ∨ w.heap.size ≤ k_) ∧ some k_ ≠ (.slice Ao9 l0_2.length co9 : Value).ownBlock ∧ some k_ ≠ (.slice Ao24 t367.length co24 : Value).ownBlock ∧ some k_ ≠ (.slice Ao26 t370.length co26 : Value).ownBlock ∧ k_ ≠ gb366) (.slice (some ad365) l0_3.length co10) l0_3) := ⟨by (with_reducible repeat (first | apply Kd.R_alloc | apply Kd.R_drewN | apply Kd.R_drew)); exact Kd.R_mono (Kd.R_far (p := ⟨gb362, 3, none⟩) (Kd.R_types HO0_3.out BK362.out (by decide)) (fun _ hk => hk.2) (.slice Ao26 t370.length co26)) (fun _ hk => ⟨hk.1.1.1.1, ⟨hk.1.1.1.2.1, ⟨hk.1.1.2, ⟨hk.1.2, hk.1.1.1.2.2⟩⟩⟩⟩)⟩
    have n2_ : Aside0 (Kd.R k45 45 (w25.setCell ⟨gb362, 3, none⟩ (.slice Ao26 t370.length co26)) w0.heap.size (fun k_ => ((P0_2_ k_ ∨ P0_3_ k_) ∨ w.heap.size ≤ k_) ∧ some k_ ≠ (.slice Ao9 l0_2.length co9 : Value).ownBlock ∧ some k_ ≠ (.slice (some ad365) l0_3.length co10 : Value).ownBlock ∧ some k_ ≠ (.slice Ao26 t370.length co26 : Value).ownBlock ∧ k_ ≠ gb366) (.slice Ao24 t367.length co24) t367) := ⟨by (with_reducible repeat (first | apply Kd.R_alloc | apply Kd.R_drewN | apply Kd.R_drew)); exact Kd.R_mono (Kd.R_far (p := ⟨gb362, 3, none⟩) (Kd.R_types HO369.out BK362.out (by decide)) (fun _ hk => hk.2) (.slice Ao26 t370.length co26)) (fun _ hk => ⟨hk.1.1.1.1.1.1, ⟨hk.1.1.1.1.2, ⟨hk.1.1.1.2, ⟨hk.1.2, hk.1.1.2⟩⟩⟩⟩)⟩
    have n3_ : Aside0 (Kd.R k45 45 (w25.setCell ⟨gb362, 3, none⟩ (.slice Ao26 t370.length co26)) w0.heap.size (fun k_ => ((P0_2_ k_ ∨ P0_3_ k_) ∨ w.heap.size ≤ k_) ∧ some k_ ≠ (.slice Ao9 l0_2.length co9 : Value).ownBlock ∧ some k_ ≠ (.slice (some ad365) l0_3.length co10 : Value).ownBlock ∧ some k_ ≠ (.slice Ao24 t367.length co24 : Value).ownBlock ∧ k_ ≠ gb366) (.slice Ao26 t370.length co26) t370) := ⟨by (with_reducible repeat (first | apply Kd.R_alloc | apply Kd.R_drewN | apply Kd.R_drew)); exact Kd.R_mono (Kd.R_far (p := ⟨gb362, 3, none⟩) (Kd.R_types HO372.out BK362.out (by decide)) (fun _ hk => hk.2) (.slice Ao26 t370.length co26)) (fun _ hk => ⟨hk.1.1.1.1.1.1, ⟨hk.1.1.1.1.2, ⟨hk.1.1.1.2, ⟨hk.1.1.2, hk.1.2⟩⟩⟩⟩)⟩
    have n4_ : Aside0 ((w25.setCell ⟨gb362, 3, none⟩ (.slice Ao26 t370.length co26)).heap[gb362]? = some (.cells #[.int .i64 a0_0, .int .i64 a0_1, .slice Ao9 l0_2.length co9, .slice Ao26 t370.length co26] 28 (0, 0))) := ⟨by (with_reducible repeat (first | refine blk_drewN ?_ _ | refine blk_drew ?_ | refine blk_alloc ?_ _)); refine blk_put (cs := #[.int .i64 a0_0, .int .i64 a0_1, .slice Ao9 l0_2.length co9, .slice (some ad365) l0_3.length co10]) ?_ 3 _ rfl; exact bk BK362.out⟩
    have n5_ : Aside0 ((w25.setCell ⟨gb362, 3, none⟩ (.slice Ao26 t370.length co26)).heap[gb363]? = some (.cells #[.int .i64 0, .int .i64 0, .slice none 0 0, .slice none 0 0] 28 (0, 0))) := ⟨by (with_reducible repeat (first | refine blk_drewN ?_ _ | refine blk_drew ?_ | refine blk_alloc ?_ _)); refine blk_far ?_ NB363_362.out _; exact bk BK363.out⟩
    have n6_ : Aside0 ((w25.setCell ⟨gb362, 3, none⟩ (.slice Ao26 t370.length co26)).heap[gb366]? = some (.cells #[.string ((rd_T45 l0_3 t364).f0), .string ((rd_T45 l0_3 t364).f1)] 45 (0, 0))) := ⟨by (with_reducible repeat (first | refine blk_drewN ?_ _ | refine blk_drew ?_ | refine blk_alloc ?_ _)); refine blk_far ?_ NB366_362.out _; exact bk BK366.out⟩
    have n7_ : Aside0 (Kept w (w25.setCell ⟨gb362, 3, none⟩ (.slice Ao26 t370.length co26)) (fun k_ => P0_2_ k_ ∨ P0_3_ k_)) := ⟨by repeat (first | (with_reducible first | exact HK.out | apply Kept.alloc | apply Kept.drewN | apply Kept.drew | refine Kept.setCell ?_ (.inr GW362.out) _ | refine Kept.setCell ?_ (.inr GW363.out) _ | refine Kept.setCell ?_ (.inr GW366.out) _) | exact HK.out)⟩
    have n8_ : Aside0 (Below w0.heap.size w0 (w25.setCell ⟨gb362, 3, none⟩ (.slice Ao26 t370.length co26))) := ⟨bl3 HB.out GE362.out GE363.out GE366.out⟩
    (try clear HO0_2)
    (try clear HO0_3)
    (try clear HO369)
    (try clear HO372)
    (try clear BK362)
    (try clear BK363)
    (try clear BK366)
    (try clear HK)
    (try clear HB)
    generalize (w25.setCell ⟨gb362, 3, none⟩ (.slice Ao26 t370.length co26)) = w28 at n0_ n1_ n2_ n3_ n4_ n5_ n6_ n7_ n8_ ⊢
    have HO0_2 := n0_
    have HO0_3 := n1_
    have HO369 := n2_
    have HO372 := n3_
    have BK362 := n4_
    have BK363 := n5_
    have BK366 := n6_
    have HK := n7_
    have HB := n8_
    clear n0_ n1_ n2_ n3_ n4_ n5_ n6_ n7_ n8_
    have n0_ := Aside0.mk (Kd.R_drew HO0_2.out)
    have n1_ := Aside0.mk (Kd.R_drew HO0_3.out)
    have n2_ := Aside0.mk (Kd.R_drew HO369.out)
    have n3_ := Aside0.mk (Kd.R_drew HO372.out)
    have n4_ := Aside0.mk (blk_drew BK362.out)
    have n5_ := Aside0.mk (blk_drew BK363.out)
    have n6_ := Aside0.mk (blk_drew BK366.out)
    have n7_ := Aside0.mk (Kept.drew HK.out)
    have n8_ := Aside0.mk (below_drew1 HB.out)
    clear HO0_2
    clear HO0_3
    clear HO369
    clear HO372
    clear BK362
    clear BK363
    clear BK366
    clear HK
    clear HB
    have HO0_2 := n0_
    have HO0_3 := n1_
    have HO369 := n2_
    have HO372 := n3_
    have BK362 := n4_
    have BK363 := n5_
    have BK366 := n6_
    have HK := n7_
    have HB := n8_
    clear n0_ n1_ n2_ n3_ n4_ n5_ n6_ n7_ n8_
    refine start_ (n := 6) (S := fun w' => w'.cell? ⟨gb362, 0, none⟩ = some (.int .i64 a0_0) ∧ w'.cell? ⟨gb362, 1, none⟩ = some (.int .i64 a0_1) ∧ w'.cell? ⟨gb362, 2, none⟩ = some (.slice Ao9 l0_2.length co9) ∧ w'.cell? ⟨gb362, 3, none⟩ = some (.slice Ao26 t370.length co26) ∧ w'.cell? ⟨gb366, 0, none⟩ = some (.string ((rd_T45 l0_3 t364).f0)) ∧ w'.cell? ⟨gb366, 1, none⟩ = some (.string ((rd_T45 l0_3 t364).f1))) (ds := []) #[false, false, false, false, false, false] (by kernel_rfl) rfl rfl ⟨(blk_cell BK362.out 0).trans rfl, (blk_cell BK362.out 1).trans rfl, (blk_cell BK362.out 2).trans rfl, (blk_cell BK362.out 3).trans rfl, (blk_cell BK366.out 0).trans rfl, (blk_cell BK366.out 1).trans rfl⟩ (fun hHeld => ?_)
    generalize w28.drew = w29 at HO0_2 HO0_3 HO369 HO372 BK362 BK363 BK366 HK HB hHeld ⊢
    refine pure_ (i := 1) (N := some 30) (v := ?_) (a' := ?_) #[false, true, false, false, false, false] rfl rfl (by kernel_rfl) (fun _ _ _ h => h) (Or.inl ⟨by rfl, ?_⟩) ?_ ?_
    rotate_left
    ·intro w'
     go_simp
     with_reducible rfl
    rotate_left
    ·simp only [Act.put, List.setIfInBounds_toArray, List.set_cons_zero, List.set_cons_succ, i64_w, i32_w]
     rfl
    refine take_ (i := 0) (N := some 29) (v := ?_) (a' := ?_) #[true, true, false, false, false, false] rfl rfl (by kernel_rfl) (fun _ _ _ h => h) (Or.inl ⟨by rfl, ?_⟩) hHeld ?_ ?_
    rotate_left
    ·rintro w' ⟨s0, s1, s2, s3, s4, s5⟩
     go_simp
     with_reducible rfl
    rotate_left
    ·simp only [Act.put, List.setIfInBounds_toArray, List.set_cons_zero, List.set_cons_succ, i64_w, i32_w]
     rfl
    refine take_ (i := 2) (N := some 31) (v := ?_) (a' := ?_) #[true, true, true, false, false, false] rfl rfl (by kernel_rfl) (fun _ _ _ h => h) (Or.inl ⟨by rfl, ?_⟩) hHeld ?_ ?_
    rotate_left
    ·rintro w' ⟨s0, s1, s2, s3, s4, s5⟩
     go_simp
     with_reducible rfl
    rotate_left
    ·simp only [Act.put, List.setIfInBounds_toArray, List.set_cons_zero, List.set_cons_succ, i64_w, i32_w]
     rfl
    refine one_ (i := 3) (N := none) #[true, true, true, true, false, false] rfl rfl (by kernel_rfl) (by decide) (fun K hK => ?_)
    have hs30 := bc0 BK363.out
    have hfs30 := blk_frozen BK363.out 0
    have hns30_0 := NB362_363.out
    have hns30_2 := NB366_363.out
    have hms30_0 := NB363_362.out
    have hms30_2 := NB363_366.out
    have hs31 := bc1 BK363.out
    have hfs31 := blk_frozen BK363.out 1
    have hns31_0 := NB362_363.out
    have hns31_2 := NB366_363.out
    have hms31_0 := NB363_362.out
    have hms31_2 := NB363_366.out
    have hs32 := bc2 BK363.out
    have hfs32 := blk_frozen BK363.out 2
    have hns32_0 := NB362_363.out
    have hns32_2 := NB366_363.out
    have hms32_0 := NB363_362.out
    have hms32_2 := NB363_366.out
    have hs33 := bc3 BK363.out
    have hfs33 := blk_frozen BK363.out 3
    have hns33_0 := NB362_363.out
    have hns33_2 := NB366_363.out
    have hms33_0 := NB363_362.out
    have hms33_2 := NB363_366.out
    refine skip_ (w1 := ?_) (by rfl) rfl ?_ ?_
    rotate_left
    ·go_simp
     rfl
    refine hK.out _ _ ⟨((cell_far (p := ⟨gb363, _, none⟩) NB362_363.out _).trans (((cell_far (p := ⟨gb363, _, none⟩) NB362_363.out _).trans (((cell_far (p := ⟨gb363, _, none⟩) NB362_363.out _).trans (((cell_far (p := ⟨gb363, _, none⟩) NB362_363.out _).trans (hHeld.1)))))))), ((cell_far (p := ⟨gb363, _, none⟩) NB362_363.out _).trans (((cell_far (p := ⟨gb363, _, none⟩) NB362_363.out _).trans (((cell_far (p := ⟨gb363, _, none⟩) NB362_363.out _).trans (((cell_far (p := ⟨gb363, _, none⟩) NB362_363.out _).trans (hHeld.2.1)))))))), ((cell_far (p := ⟨gb363, _, none⟩) NB362_363.out _).trans (((cell_far (p := ⟨gb363, _, none⟩) NB362_363.out _).trans (((cell_far (p := ⟨gb363, _, none⟩) NB362_363.out _).trans (((cell_far (p := ⟨gb363, _, none⟩) NB362_363.out _).trans (hHeld.2.2.1)))))))), ((cell_far (p := ⟨gb363, _, none⟩) NB362_363.out _).trans (((cell_far (p := ⟨gb363, _, none⟩) NB362_363.out _).trans (((cell_far (p := ⟨gb363, _, none⟩) NB362_363.out _).trans (((cell_far (p := ⟨gb363, _, none⟩) NB362_363.out _).trans (hHeld.2.2.2.1)))))))), ((cell_far (p := ⟨gb363, _, none⟩) NB366_363.out _).trans (((cell_far (p := ⟨gb363, _, none⟩) NB366_363.out _).trans (((cell_far (p := ⟨gb363, _, none⟩) NB366_363.out _).trans (((cell_far (p := ⟨gb363, _, none⟩) NB366_363.out _).trans (hHeld.2.2.2.2.1)))))))), ((cell_far (p := ⟨gb363, _, none⟩) NB366_363.out _).trans (((cell_far (p := ⟨gb363, _, none⟩) NB366_363.out _).trans (((cell_far (p := ⟨gb363, _, none⟩) NB366_363.out _).trans (((cell_far (p := ⟨gb363, _, none⟩) NB366_363.out _).trans (hHeld.2.2.2.2.2))))))))⟩ (fun hHeld => ?_)
    clear hK K
    refine pure_ (i := 4) (N := some 5) (v := ?_) (a' := ?_) #[true, true, true, true, true, false] rfl rfl (by kernel_rfl) (fun _ _ _ h => h) (Or.inl ⟨by rfl, ?_⟩) ?_ ?_
    rotate_left
    ·intro w'
     go_simp
     with_reducible rfl
    rotate_left
    ·simp only [Act.put, List.setIfInBounds_toArray, List.set_cons_zero, List.set_cons_succ, i64_w, i32_w]
     rfl
    refine pure_ (i := 5) (N := some 6) (v := ?_) (a' := ?_) #[true, true, true, true, true, true] rfl rfl (by kernel_rfl) (fun _ _ _ h => h) (Or.inl ⟨by rfl, ?_⟩) ?_ ?_
    rotate_left
    ·intro w'
     go_simp
     with_reducible rfl
    rotate_left
    ·simp only [Act.put, List.setIfInBounds_toArray, List.set_cons_zero, List.set_cons_succ, i64_w, i32_w]
     rfl
    refine done_ (by kernel_rfl) ?_
    try go_wp2
    refine bodyPost_ret (results_ctt rfl _ _ gb363 28 #[.int .i64 a0_0, .int .i64 a0_1, .slice Ao9 l0_2.length co9, .slice Ao26 t370.length co26] (0, 0) _ rfl (by (with_reducible repeat (first | refine blk_drewN ?_ _ | refine blk_drew ?_ | refine blk_alloc ?_ _)); refine blk_put (cs := #[.int .i64 a0_0, .int .i64 a0_1, .slice Ao9 l0_2.length co9, .slice none 0 0]) ?_ 3 _ rfl; (with_reducible repeat (first | refine blk_drewN ?_ _ | refine blk_drew ?_ | refine blk_alloc ?_ _)); refine blk_put (cs := #[.int .i64 a0_0, .int .i64 a0_1, .slice none 0 0, .slice none 0 0]) ?_ 2 _ rfl; (with_reducible repeat (first | refine blk_drewN ?_ _ | refine blk_drew ?_ | refine blk_alloc ?_ _)); refine blk_put (cs := #[.int .i64 a0_0, .int .i64 0, .slice none 0 0, .slice none 0 0]) ?_ 1 _ rfl; (with_reducible repeat (first | refine blk_drewN ?_ _ | refine blk_drew ?_ | refine blk_alloc ?_ _)); refine blk_put (cs := #[.int .i64 0, .int .i64 0, .slice none 0 0, .slice none 0 0]) ?_ 0 _ rfl; exact bk BK363.out) Try.underlying28 rfl (by kernel_rfl)) rfl ?_
    exact ⟨_, _, by first | rfl | (simp [errW_none, errW_some] <;> rfl) | (simp [*, errW_none, errW_some] <;> rfl), by (with_reducible repeat (first | apply Kd.R_alloc | apply Kd.R_drewN | apply Kd.R_drew)); exact Kd.R_mono (Kd.R_far (p := ⟨gb363, 3, none⟩) (Kd.R_far (p := ⟨gb363, 2, none⟩) (Kd.R_far (p := ⟨gb363, 1, none⟩) (Kd.R_far (p := ⟨gb363, 0, none⟩) (Kd.R_types HO0_2.out BK363.out (by decide)) (fun _ hk => hk.2) (.int .i64 a0_0)) (fun _ hk => hk.2) (.int .i64 a0_1)) (fun _ hk => hk.2) (.slice Ao9 l0_2.length co9)) (fun _ hk => hk.2) (.slice Ao26 t370.length co26)) (fun _ hk => ⟨hk.1.1, hk.1.2.2.2.1⟩), by (with_reducible repeat (first | apply Kd.R_alloc | apply Kd.R_drewN | apply Kd.R_drew)); exact Kd.R_mono (Kd.R_far (p := ⟨gb363, 3, none⟩) (Kd.R_far (p := ⟨gb363, 2, none⟩) (Kd.R_far (p := ⟨gb363, 1, none⟩) (Kd.R_far (p := ⟨gb363, 0, none⟩) (Kd.R_types HO372.out BK363.out (by decide)) (fun _ hk => hk.2) (.int .i64 a0_0)) (fun _ hk => hk.2) (.int .i64 a0_1)) (fun _ hk => hk.2) (.slice Ao9 l0_2.length co9)) (fun _ hk => hk.2) (.slice Ao26 t370.length co26)) (fun _ hk => ⟨hk.1.1, hk.1.2.1⟩), bl3 HB.out GE362.out GE363.out GE366.out, by repeat (first | (with_reducible first | exact HK.out | apply Kept.alloc | apply Kept.drewN | apply Kept.drew | refine Kept.setCell ?_ (.inr GW362.out) _ | refine Kept.setCell ?_ (.inr GW363.out) _ | refine Kept.setCell ?_ (.inr GW366.out) _) | exact HK.out)⟩
   ·rw [if_neg c6] at H
    exact absurd H (by simp)
  ·rw [if_neg c5] at H
   exact absurd H (by simp)
 ·rw [if_neg c4] at H
  have c4b0 : decide (0 ≤ t364) = false := decide_eq_false c4
  clear c4
  replace H := Option.bind_eq_some_iff.mp H
  obtain ⟨t373, A340, H⟩ := H
  try dsimp only at H
  have A34 := Aside0.mk A340
  clear A340
  by_cases c35 : t373 < 0
  ·rw [if_pos c35] at H
   have c35b0 : decide (t373 < 0) = true := decide_eq_true c35
   clear c35
   simp only [Option.some.injEq, Prod.mk.injEq] at H
   obtain ⟨rfl, rfl, rfl, rfl, rfl, rfl⟩ := H
   obtain ⟨Ao36, co36, eo36⟩ := Kd.R_slice HO0_2.out
   subst eo36
   obtain ⟨Ao37, co37, eo37⟩ := Kd.R_slice HO0_3.out
   subst eo37
   go_enter Try.func57, Try.ntmps57
   go_wp2_with (first | ((with_reducible refine gate_dst (N := 2) rfl ?_); refine box_event ?hg (N := 2) ?hd (cs := #[.int .i64 a0_0, .int .i64 a0_1, .slice Ao36 l0_2.length co36, .slice Ao37 l0_3.length co37]) (t := 28) ?hr ?_; (case hd => rfl); (case hg => rfl); (case hr => first | (go_simp; done) | (go_simp; rfl)); intro gb362 hg w38 hbox hb; have n0_ := Aside0.mk (Kd.R_below (kr HO0_2.out) hb); have n1_ := Aside0.mk (Kd.R_below (kr HO0_3.out) hb); have n2_ := Aside0.mk (Kept.below (S := (fun k_ => P0_2_ k_ ∨ P0_3_ k_)) (by repeat (first | (with_reducible first | exact HK.out | apply Kept.alloc | apply Kept.drewN | apply Kept.drew) | exact HK.out)) hb); have n3_ := Aside0.mk (below_step (bl HB.out) hb); have n4_ := Aside0.mk (hbox); have n5_ := Aside0.mk ((by rw [hg]; exact (by first | exact HK.out.1 | exact (show Kept w _ (fun k_ => P0_2_ k_ ∨ P0_3_ k_) from by repeat (first | (with_reducible first | exact HK.out | apply Kept.alloc | apply Kept.drewN | apply Kept.drew) | exact HK.out)).1) : w.heap.size ≤ gb362)); have n6_ := Aside0.mk ((by rw [hg]; exact (below_size (bl HB.out)) : w0.heap.size ≤ gb362)); clear HO0_2; clear HO0_3; clear HK; clear HB; have HO0_2 := n0_; have HO0_3 := n1_; have HK := n2_; have HB := n3_; have BK362 := n4_; have GW362 := n5_; have GE362 := n6_; clear n0_ n1_ n2_ n3_ n4_ n5_ n6_; clear hb hbox hg) | ((with_reducible refine gate_dst (N := 4) rfl ?_); refine box_event ?hg (N := 4) ?hd (cs := #[.int .i64 0, .int .i64 0, .slice none 0 0, .slice none 0 0]) (t := 28) ?hr ?_; (case hd => rfl); (case hg => rfl); (case hr => first | (go_simp; done) | (go_simp; rfl)); intro gb363 hg w39 hbox hb; have n0_ := Aside0.mk (Kd.R_below (kr HO0_2.out) hb); have n1_ := Aside0.mk (Kd.R_below (kr HO0_3.out) hb); have n2_ := Aside0.mk (blk_below (bk BK362.out) hb); have n3_ := Aside0.mk (Kept.below (S := (fun k_ => P0_2_ k_ ∨ P0_3_ k_)) (by repeat (first | (with_reducible first | exact HK.out | apply Kept.alloc | apply Kept.drewN | apply Kept.drew | refine Kept.setCell ?_ (.inr GW362.out) _) | exact HK.out)) hb); have n4_ := Aside0.mk (below_step (bl1 HB.out GE362.out) hb); have n5_ := Aside0.mk (hbox); have n6_ := Aside0.mk ((by rw [hg]; exact (by first | exact HK.out.1 | exact (show Kept w _ (fun k_ => P0_2_ k_ ∨ P0_3_ k_) from by repeat (first | (with_reducible first | exact HK.out | apply Kept.alloc | apply Kept.drewN | apply Kept.drew | refine Kept.setCell ?_ (.inr GW362.out) _) | exact HK.out)).1) : w.heap.size ≤ gb363)); have n7_ := Aside0.mk ((by rw [hg]; exact (below_size (bl1 HB.out GE362.out)) : w0.heap.size ≤ gb363)); have n8_ := Aside0.mk ((by rw [hg]; exact Nat.ne_of_lt (blk_lt (bk BK362.out)) : gb362 ≠ gb363)); have n9_ := Aside0.mk ((by rw [hg]; exact Nat.ne_of_gt (blk_lt (bk BK362.out)) : gb363 ≠ gb362)); clear HO0_2; clear HO0_3; clear BK362; clear HK; clear HB; have HO0_2 := n0_; have HO0_3 := n1_; have BK362 := n2_; have HK := n3_; have HB := n4_; have BK363 := n5_; have GW363 := n6_; have GE363 := n7_; have NB362_363 := n8_; have NB363_362 := n9_; clear n0_ n1_ n2_ n3_ n4_ n5_ n6_ n7_ n8_ n9_; clear hb hbox hg; have hnb40 := NB362_363.out; have hnc40 := NB363_362.out; have hcz41_0 := bc0 BK362.out; have hcz41_1 := bc1 BK362.out; have hcz41_2 := bc2 BK362.out; have hcz41_3 := bc3 BK362.out; have hfz41_0 := blk_frozen BK362.out 0; have hfz41_1 := blk_frozen BK362.out 1; have hfz41_2 := blk_frozen BK362.out 2; have hfz41_3 := blk_frozen BK362.out 3) | ((with_reducible refine gate_callee (f := 43) rfl ?_); refine goesL_ (some 14) rfl rfl Try.func43 (by kernel_rfl) rfl #[.slice Ao37 l0_3.length co37, .string a1] rfl (by (try simp only [List.map_toArray, List.map_cons, List.map_nil]); first | done | rfl | (simp only [List.length_drop, List.length_take]; rfl)) ?_; (with_reducible refine (spec_l12At.calls k _ _ l0_3 a1 t364 _ ?side1 ?side2 A3.out).mono ?_); (case side1 => exact kc (Kd.R_reads' HO0_3.out).2.2); (case side2 => exact (Kd.R_reads' HO0_3.out).2.1); rintro e w42 ⟨rfl, hb⟩; refine ⟨_, rfl, ?_⟩; have n0_ := Aside0.mk (Kd.R_below (kr HO0_2.out) hb); have n1_ := Aside0.mk (Kd.R_below (kr HO0_3.out) hb); have n2_ := Aside0.mk (blk_below (bk BK362.out) hb); have n3_ := Aside0.mk (blk_below (bk BK363.out) hb); have n4_ := Aside0.mk (Kept.below (S := (fun k_ => P0_2_ k_ ∨ P0_3_ k_)) (by repeat (first | (with_reducible first | exact HK.out | apply Kept.alloc | apply Kept.drewN | apply Kept.drew | refine Kept.setCell ?_ (.inr GW362.out) _ | refine Kept.setCell ?_ (.inr GW363.out) _) | exact HK.out)) hb); have n5_ := Aside0.mk (below_step (bl2 HB.out GE362.out GE363.out) hb); clear HO0_2; clear HO0_3; clear BK362; clear BK363; clear HK; clear HB; have HO0_2 := n0_; have HO0_3 := n1_; have BK362 := n2_; have BK363 := n3_; have HK := n4_; have HB := n5_; clear n0_ n1_ n2_ n3_ n4_ n5_; (try clear hb); (try clear hb2); (try clear hk); (try clear hi); have hcz43_0 := bc0 BK362.out; have hcz43_1 := bc1 BK362.out; have hcz43_2 := bc2 BK362.out; have hcz43_3 := bc3 BK362.out; have hfz43_0 := blk_frozen BK362.out 0; have hfz43_1 := blk_frozen BK362.out 1; have hfz43_2 := blk_frozen BK362.out 2; have hfz43_3 := blk_frozen BK362.out 3) | ((with_reducible refine gate_callee (f := 43) rfl ?_); refine goesL_ (some 35) rfl rfl Try.func43 (by kernel_rfl) rfl #[.slice Ao36 l0_2.length co36, .string a1] rfl (by (try simp only [List.map_toArray, List.map_cons, List.map_nil]); first | done | rfl | (simp only [List.length_drop, List.length_take]; rfl)) ?_; (with_reducible refine (spec_l12At.calls k _ _ l0_2 a1 t373 _ ?side1 ?side2 A34.out).mono ?_); (case side1 => exact kc (Kd.R_reads' HO0_2.out).2.2); (case side2 => exact (Kd.R_reads' HO0_2.out).2.1); rintro e w44 ⟨rfl, hb⟩; refine ⟨_, rfl, ?_⟩; have n0_ := Aside0.mk (Kd.R_below (kr HO0_2.out) hb); have n1_ := Aside0.mk (Kd.R_below (kr HO0_3.out) hb); have n2_ := Aside0.mk (blk_below (bk BK362.out) hb); have n3_ := Aside0.mk (blk_below (bk BK363.out) hb); have n4_ := Aside0.mk (Kept.below (S := (fun k_ => P0_2_ k_ ∨ P0_3_ k_)) (by repeat (first | (with_reducible first | exact HK.out | apply Kept.alloc | apply Kept.drewN | apply Kept.drew | refine Kept.setCell ?_ (.inr GW362.out) _ | refine Kept.setCell ?_ (.inr GW363.out) _) | exact HK.out)) hb); have n5_ := Aside0.mk (below_step (bl2 HB.out GE362.out GE363.out) hb); clear HO0_2; clear HO0_3; clear BK362; clear BK363; clear HK; clear HB; have HO0_2 := n0_; have HO0_3 := n1_; have BK362 := n2_; have BK363 := n3_; have HK := n4_; have HB := n5_; clear n0_ n1_ n2_ n3_ n4_ n5_; (try clear hb); (try clear hb2); (try clear hk); (try clear hi); have hcz45_0 := bc0 BK362.out; have hcz45_1 := bc1 BK362.out; have hcz45_2 := bc2 BK362.out; have hcz45_3 := bc3 BK362.out; have hfz45_0 := blk_frozen BK362.out 0; have hfz45_1 := blk_frozen BK362.out 1; have hfz45_2 := blk_frozen BK362.out 2; have hfz45_3 := blk_frozen BK362.out 3; have hcz46_0 := bc0 BK363.out; have hcz46_1 := bc1 BK363.out; have hcz46_2 := bc2 BK363.out; have hcz46_3 := bc3 BK363.out; have hfz46_0 := blk_frozen BK363.out 0; have hfz46_1 := blk_frozen BK363.out 1; have hfz46_2 := blk_frozen BK363.out 2; have hfz46_3 := blk_frozen BK363.out 3))
   refine bodyPost_ret (results_ctt rfl _ _ gb363 28 #[.int .i64 a0_0, .int .i64 a0_1, .slice Ao36 l0_2.length co36, .slice Ao37 l0_3.length co37] (0, 0) _ rfl (by (with_reducible repeat (first | refine blk_drewN ?_ _ | refine blk_drew ?_ | refine blk_alloc ?_ _)); refine blk_put (cs := #[.int .i64 a0_0, .int .i64 a0_1, .slice Ao36 l0_2.length co36, .slice none 0 0]) ?_ 3 _ rfl; (with_reducible repeat (first | refine blk_drewN ?_ _ | refine blk_drew ?_ | refine blk_alloc ?_ _)); refine blk_put (cs := #[.int .i64 a0_0, .int .i64 a0_1, .slice none 0 0, .slice none 0 0]) ?_ 2 _ rfl; (with_reducible repeat (first | refine blk_drewN ?_ _ | refine blk_drew ?_ | refine blk_alloc ?_ _)); refine blk_put (cs := #[.int .i64 a0_0, .int .i64 0, .slice none 0 0, .slice none 0 0]) ?_ 1 _ rfl; (with_reducible repeat (first | refine blk_drewN ?_ _ | refine blk_drew ?_ | refine blk_alloc ?_ _)); refine blk_put (cs := #[.int .i64 0, .int .i64 0, .slice none 0 0, .slice none 0 0]) ?_ 0 _ rfl; exact bk BK363.out) Try.underlying28 rfl (by kernel_rfl)) rfl ?_
   exact ⟨_, _, by first | rfl | (simp [errW_none, errW_some] <;> rfl) | (simp [*, errW_none, errW_some] <;> rfl), by (with_reducible repeat (first | apply Kd.R_alloc | apply Kd.R_drewN | apply Kd.R_drew)); exact Kd.R_mono (Kd.R_far (p := ⟨gb363, 3, none⟩) (Kd.R_far (p := ⟨gb363, 2, none⟩) (Kd.R_far (p := ⟨gb363, 1, none⟩) (Kd.R_far (p := ⟨gb363, 0, none⟩) (Kd.R_types HO0_2.out BK363.out (by decide)) (fun _ hk => hk.2) (.int .i64 a0_0)) (fun _ hk => hk.2) (.int .i64 a0_1)) (fun _ hk => hk.2) (.slice Ao36 l0_2.length co36)) (fun _ hk => hk.2) (.slice Ao37 l0_3.length co37)) (fun _ hk => ⟨hk.1.1, hk.1.2⟩), by (with_reducible repeat (first | apply Kd.R_alloc | apply Kd.R_drewN | apply Kd.R_drew)); exact Kd.R_mono (Kd.R_far (p := ⟨gb363, 3, none⟩) (Kd.R_far (p := ⟨gb363, 2, none⟩) (Kd.R_far (p := ⟨gb363, 1, none⟩) (Kd.R_far (p := ⟨gb363, 0, none⟩) (Kd.R_types HO0_3.out BK363.out (by decide)) (fun _ hk => hk.2) (.int .i64 a0_0)) (fun _ hk => hk.2) (.int .i64 a0_1)) (fun _ hk => hk.2) (.slice Ao36 l0_2.length co36)) (fun _ hk => hk.2) (.slice Ao37 l0_3.length co37)) (fun _ hk => ⟨hk.1.1, hk.1.2⟩), bl2 HB.out GE362.out GE363.out, by repeat (first | (with_reducible first | exact HK.out | apply Kept.alloc | apply Kept.drewN | apply Kept.drew | refine Kept.setCell ?_ (.inr GW362.out) _ | refine Kept.setCell ?_ (.inr GW363.out) _) | exact HK.out)⟩
  ·rw [if_neg c35] at H
   have c35b0 : decide (t373 < 0) = false := decide_eq_false c35
   clear c35
   by_cases c47 : 0 ≤ t373
   ·rw [if_pos c47] at H
    have c47b0 : decide (0 ≤ t373) = true := decide_eq_true c47
    clear c47
    by_cases c48 : t373 < (l0_2.length : Int)
    ·rw [if_pos c48] at H
     have c48b0 : decide (t373 < (l0_2.length : Int)) = true := decide_eq_true c48
     clear c48
     replace H := Option.bind_eq_some_iff.mp H
     obtain ⟨t376, A490, H⟩ := H
     try dsimp only at H
     have A49 := Aside0.mk A490
     clear A490
     replace H := Option.bind_eq_some_iff.mp H
     obtain ⟨t379, A500, H⟩ := H
     try dsimp only at H
     have A50 := Aside0.mk A500
     clear A500
     replace H := Option.bind_eq_some_iff.mp H
     obtain ⟨⟨t382, t383, t384, t387, t390⟩, A510, H⟩ := H
     try dsimp only at H
     have A51 := Aside0.mk A510
     clear A510
     simp only [Option.some.injEq, Prod.mk.injEq] at H
     obtain ⟨rfl, rfl, rfl, rfl, rfl, rfl⟩ := H
     obtain ⟨Ao52, co52, eo52⟩ := Kd.R_slice HO0_2.out
     subst eo52
     obtain ⟨Ao53, co53, eo53⟩ := Kd.R_slice HO0_3.out
     subst eo53
     go_enter Try.func57, Try.ntmps57
     try go_wp2_with (first | ((with_reducible refine gate_dst (N := 2) rfl ?_); refine box_event ?hg (N := 2) ?hd (cs := #[.int .i64 a0_0, .int .i64 a0_1, .slice Ao52 l0_2.length co52, .slice Ao53 l0_3.length co53]) (t := 28) ?hr ?_; (case hd => rfl); (case hg => rfl); (case hr => first | (go_simp; done) | (go_simp; rfl)); intro gb362 hg w54 hbox hb; have n0_ := Aside0.mk (Kd.R_below (kr HO0_2.out) hb); have n1_ := Aside0.mk (Kd.R_below (kr HO0_3.out) hb); have n2_ := Aside0.mk (Kept.below (S := (fun k_ => P0_2_ k_ ∨ P0_3_ k_)) (by repeat (first | (with_reducible first | exact HK.out | apply Kept.alloc | apply Kept.drewN | apply Kept.drew) | exact HK.out)) hb); have n3_ := Aside0.mk (below_step (bl HB.out) hb); have n4_ := Aside0.mk (hbox); have n5_ := Aside0.mk ((by rw [hg]; exact (by first | exact HK.out.1 | exact (show Kept w _ (fun k_ => P0_2_ k_ ∨ P0_3_ k_) from by repeat (first | (with_reducible first | exact HK.out | apply Kept.alloc | apply Kept.drewN | apply Kept.drew) | exact HK.out)).1) : w.heap.size ≤ gb362)); have n6_ := Aside0.mk ((by rw [hg]; exact (below_size (bl HB.out)) : w0.heap.size ≤ gb362)); clear HO0_2; clear HO0_3; clear HK; clear HB; have HO0_2 := n0_; have HO0_3 := n1_; have HK := n2_; have HB := n3_; have BK362 := n4_; have GW362 := n5_; have GE362 := n6_; clear n0_ n1_ n2_ n3_ n4_ n5_ n6_; clear hb hbox hg) | ((with_reducible refine gate_dst (N := 4) rfl ?_); refine box_event ?hg (N := 4) ?hd (cs := #[.int .i64 0, .int .i64 0, .slice none 0 0, .slice none 0 0]) (t := 28) ?hr ?_; (case hd => rfl); (case hg => rfl); (case hr => first | (go_simp; done) | (go_simp; rfl)); intro gb363 hg w55 hbox hb; have n0_ := Aside0.mk (Kd.R_below (kr HO0_2.out) hb); have n1_ := Aside0.mk (Kd.R_below (kr HO0_3.out) hb); have n2_ := Aside0.mk (blk_below (bk BK362.out) hb); have n3_ := Aside0.mk (Kept.below (S := (fun k_ => P0_2_ k_ ∨ P0_3_ k_)) (by repeat (first | (with_reducible first | exact HK.out | apply Kept.alloc | apply Kept.drewN | apply Kept.drew | refine Kept.setCell ?_ (.inr GW362.out) _) | exact HK.out)) hb); have n4_ := Aside0.mk (below_step (bl1 HB.out GE362.out) hb); have n5_ := Aside0.mk (hbox); have n6_ := Aside0.mk ((by rw [hg]; exact (by first | exact HK.out.1 | exact (show Kept w _ (fun k_ => P0_2_ k_ ∨ P0_3_ k_) from by repeat (first | (with_reducible first | exact HK.out | apply Kept.alloc | apply Kept.drewN | apply Kept.drew | refine Kept.setCell ?_ (.inr GW362.out) _) | exact HK.out)).1) : w.heap.size ≤ gb363)); have n7_ := Aside0.mk ((by rw [hg]; exact (below_size (bl1 HB.out GE362.out)) : w0.heap.size ≤ gb363)); have n8_ := Aside0.mk ((by rw [hg]; exact Nat.ne_of_lt (blk_lt (bk BK362.out)) : gb362 ≠ gb363)); have n9_ := Aside0.mk ((by rw [hg]; exact Nat.ne_of_gt (blk_lt (bk BK362.out)) : gb363 ≠ gb362)); clear HO0_2; clear HO0_3; clear BK362; clear HK; clear HB; have HO0_2 := n0_; have HO0_3 := n1_; have BK362 := n2_; have HK := n3_; have HB := n4_; have BK363 := n5_; have GW363 := n6_; have GE363 := n7_; have NB362_363 := n8_; have NB363_362 := n9_; clear n0_ n1_ n2_ n3_ n4_ n5_ n6_ n7_ n8_ n9_; clear hb hbox hg; have hnb56 := NB362_363.out; have hnc56 := NB363_362.out; have hcz57_0 := bc0 BK362.out; have hcz57_1 := bc1 BK362.out; have hcz57_2 := bc2 BK362.out; have hcz57_3 := bc3 BK362.out; have hfz57_0 := blk_frozen BK362.out 0; have hfz57_1 := blk_frozen BK362.out 1; have hfz57_2 := blk_frozen BK362.out 2; have hfz57_3 := blk_frozen BK362.out 3) | ((with_reducible refine gate_callee (f := 43) rfl ?_); refine goesL_ (some 14) rfl rfl Try.func43 (by kernel_rfl) rfl #[.slice Ao53 l0_3.length co53, .string a1] rfl (by (try simp only [List.map_toArray, List.map_cons, List.map_nil]); first | done | rfl | (simp only [List.length_drop, List.length_take]; rfl)) ?_; (with_reducible refine (spec_l12At.calls k _ _ l0_3 a1 t364 _ ?side1 ?side2 A3.out).mono ?_); (case side1 => exact kc (Kd.R_reads' HO0_3.out).2.2); (case side2 => exact (Kd.R_reads' HO0_3.out).2.1); rintro e w58 ⟨rfl, hb⟩; refine ⟨_, rfl, ?_⟩; have n0_ := Aside0.mk (Kd.R_below (kr HO0_2.out) hb); have n1_ := Aside0.mk (Kd.R_below (kr HO0_3.out) hb); have n2_ := Aside0.mk (blk_below (bk BK362.out) hb); have n3_ := Aside0.mk (blk_below (bk BK363.out) hb); have n4_ := Aside0.mk (Kept.below (S := (fun k_ => P0_2_ k_ ∨ P0_3_ k_)) (by repeat (first | (with_reducible first | exact HK.out | apply Kept.alloc | apply Kept.drewN | apply Kept.drew | refine Kept.setCell ?_ (.inr GW362.out) _ | refine Kept.setCell ?_ (.inr GW363.out) _) | exact HK.out)) hb); have n5_ := Aside0.mk (below_step (bl2 HB.out GE362.out GE363.out) hb); clear HO0_2; clear HO0_3; clear BK362; clear BK363; clear HK; clear HB; have HO0_2 := n0_; have HO0_3 := n1_; have BK362 := n2_; have BK363 := n3_; have HK := n4_; have HB := n5_; clear n0_ n1_ n2_ n3_ n4_ n5_; (try clear hb); (try clear hb2); (try clear hk); (try clear hi); have hcz59_0 := bc0 BK362.out; have hcz59_1 := bc1 BK362.out; have hcz59_2 := bc2 BK362.out; have hcz59_3 := bc3 BK362.out; have hfz59_0 := blk_frozen BK362.out 0; have hfz59_1 := blk_frozen BK362.out 1; have hfz59_2 := blk_frozen BK362.out 2; have hfz59_3 := blk_frozen BK362.out 3) | ((with_reducible refine gate_callee (f := 43) rfl ?_); refine goesL_ (some 35) rfl rfl Try.func43 (by kernel_rfl) rfl #[.slice Ao52 l0_2.length co52, .string a1] rfl (by (try simp only [List.map_toArray, List.map_cons, List.map_nil]); first | done | rfl | (simp only [List.length_drop, List.length_take]; rfl)) ?_; (with_reducible refine (spec_l12At.calls k _ _ l0_2 a1 t373 _ ?side1 ?side2 A34.out).mono ?_); (case side1 => exact kc (Kd.R_reads' HO0_2.out).2.2); (case side2 => exact (Kd.R_reads' HO0_2.out).2.1); rintro e w60 ⟨rfl, hb⟩; refine ⟨_, rfl, ?_⟩; have n0_ := Aside0.mk (Kd.R_below (kr HO0_2.out) hb); have n1_ := Aside0.mk (Kd.R_below (kr HO0_3.out) hb); have n2_ := Aside0.mk (blk_below (bk BK362.out) hb); have n3_ := Aside0.mk (blk_below (bk BK363.out) hb); have n4_ := Aside0.mk (Kept.below (S := (fun k_ => P0_2_ k_ ∨ P0_3_ k_)) (by repeat (first | (with_reducible first | exact HK.out | apply Kept.alloc | apply Kept.drewN | apply Kept.drew | refine Kept.setCell ?_ (.inr GW362.out) _ | refine Kept.setCell ?_ (.inr GW363.out) _) | exact HK.out)) hb); have n5_ := Aside0.mk (below_step (bl2 HB.out GE362.out GE363.out) hb); clear HO0_2; clear HO0_3; clear BK362; clear BK363; clear HK; clear HB; have HO0_2 := n0_; have HO0_3 := n1_; have BK362 := n2_; have BK363 := n3_; have HK := n4_; have HB := n5_; clear n0_ n1_ n2_ n3_ n4_ n5_; (try clear hb); (try clear hb2); (try clear hk); (try clear hi); have hcz61_0 := bc0 BK362.out; have hcz61_1 := bc1 BK362.out; have hcz61_2 := bc2 BK362.out; have hcz61_3 := bc3 BK362.out; have hfz61_0 := blk_frozen BK362.out 0; have hfz61_1 := blk_frozen BK362.out 1; have hfz61_2 := blk_frozen BK362.out 2; have hfz61_3 := blk_frozen BK362.out 3; have p374 : 0 ≤ (t373 : Int) := of_decide_eq_true (by first | (with_reducible assumption) | assumption); have q374 : t373 < (l0_2.length : Int) := of_decide_eq_true (by first | (with_reducible assumption) | assumption); obtain ⟨ad374, e374, hx374_0, hx374_1⟩ := at_T45 (Kd.R_reads' HO0_2.out).2.2 t373 p374 q374; cases e374; replace p374 := eq_true p374; replace q374 := eq_true q374) | ((with_reducible refine gate_dst (N := 10) rfl ?_); refine box_event ?hg (N := 10) ?hd (cs := #[.string (⟨#[]⟩ : ByteArray), .string (⟨#[]⟩ : ByteArray)]) (t := 45) ?hr ?_; (case hd => rfl); (case hg => rfl); (case hr => first | (go_simp; done) | (go_simp; rfl)); intro gb375 hg w62 hbox hb; have n0_ := Aside0.mk (Kd.R_below (Kd.R_elderB (kr HO0_2.out) gb375 (Nat.le_of_eq hg.symm)) hb); have n1_ := Aside0.mk (Kd.R_below (Kd.R_elderB (kr HO0_3.out) gb375 (Nat.le_of_eq hg.symm)) hb); have n2_ := Aside0.mk (blk_below (bk BK362.out) hb); have n3_ := Aside0.mk (blk_below (bk BK363.out) hb); have n4_ := Aside0.mk (Kept.below (S := (fun k_ => P0_2_ k_ ∨ P0_3_ k_)) (by repeat (first | (with_reducible first | exact HK.out | apply Kept.alloc | apply Kept.drewN | apply Kept.drew | refine Kept.setCell ?_ (.inr GW362.out) _ | refine Kept.setCell ?_ (.inr GW363.out) _) | exact HK.out)) hb); have n5_ := Aside0.mk (below_step (bl2 HB.out GE362.out GE363.out) hb); have n6_ := Aside0.mk (hbox); have n7_ := Aside0.mk ((by rw [hg]; exact (by first | exact HK.out.1 | exact (show Kept w _ (fun k_ => P0_2_ k_ ∨ P0_3_ k_) from by repeat (first | (with_reducible first | exact HK.out | apply Kept.alloc | apply Kept.drewN | apply Kept.drew | refine Kept.setCell ?_ (.inr GW362.out) _ | refine Kept.setCell ?_ (.inr GW363.out) _) | exact HK.out)).1) : w.heap.size ≤ gb375)); have n8_ := Aside0.mk ((by rw [hg]; exact (below_size (bl2 HB.out GE362.out GE363.out)) : w0.heap.size ≤ gb375)); have n9_ := Aside0.mk ((by rw [hg]; exact Nat.ne_of_lt (blk_lt (bk BK362.out)) : gb362 ≠ gb375)); have n10_ := Aside0.mk ((by rw [hg]; exact Nat.ne_of_gt (blk_lt (bk BK362.out)) : gb375 ≠ gb362)); have n11_ := Aside0.mk ((by rw [hg]; exact Nat.ne_of_lt (blk_lt (bk BK363.out)) : gb363 ≠ gb375)); have n12_ := Aside0.mk ((by rw [hg]; exact Nat.ne_of_gt (blk_lt (bk BK363.out)) : gb375 ≠ gb363)); clear HO0_2; clear HO0_3; clear BK362; clear BK363; clear HK; clear HB; have HO0_2 := n0_; have HO0_3 := n1_; have BK362 := n2_; have BK363 := n3_; have HK := n4_; have HB := n5_; have BK375 := n6_; have GW375 := n7_; have GE375 := n8_; have NB362_375 := n9_; have NB375_362 := n10_; have NB363_375 := n11_; have NB375_363 := n12_; clear n0_ n1_ n2_ n3_ n4_ n5_ n6_ n7_ n8_ n9_ n10_ n11_ n12_; clear hb hbox hg; have hnb63 := NB375_362.out; have hnc63 := NB362_375.out; have hnb64 := NB375_363.out; have hnc64 := NB363_375.out; have hcz65_0 := bc0 BK375.out; have hcz65_1 := bc1 BK375.out; have hfz65_0 := blk_frozen BK375.out 0; have hfz65_1 := blk_frozen BK375.out 1; have hcz66_0 := bc0 BK362.out; have hcz66_1 := bc1 BK362.out; have hcz66_2 := bc2 BK362.out; have hcz66_3 := bc3 BK362.out; have hfz66_0 := blk_frozen BK362.out 0; have hfz66_1 := blk_frozen BK362.out 1; have hfz66_2 := blk_frozen BK362.out 2; have hfz66_3 := blk_frozen BK362.out 3) | ((with_reducible refine gate_callee (f := 44) rfl ?_); refine goesL_ (some 47) rfl rfl Try.func44 (by kernel_rfl) rfl #[.slice (some ad374) l0_2.length co52, .int .i64 t373] rfl (by (try simp only [List.map_toArray, List.map_cons, List.map_nil]); first | done | rfl | (simp only [List.length_drop, List.length_take]; rfl)) ?_; (with_reducible refine (spec_l12Without.calls _ _ l0_2 t373 t376 _ ?side1 ?side2 A49.out).mono ?_); (case side1 => refine (Kd.R_reads' (e := 45) (base := w0.heap.size) (ok := fun k_ => ((((P0_2_ k_ ∨ P0_3_ k_) ∨ w.heap.size ≤ k_) ∧ some k_ ≠ (.slice Ao53 l0_3.length co53 : Value).ownBlock) ∧ k_ ≠ gb375)) (n := l0_2.length) (c := co52) ?_).2.2; exact (by (with_reducible repeat (first | apply Kd.R_alloc | apply Kd.R_drewN | apply Kd.R_drew)); exact (Kd.R_mono (Kd.R_far (p := ⟨gb375, 1, none⟩) (Kd.R_far (p := ⟨gb375, 0, none⟩) (Kd.R_mono HO0_2.out (fun k_ hk => (⟨hk, hk.2⟩ : _ ∧ k_ ≠ gb375))) (fun _ hk => hk.2) (.string ((rd_T45 l0_2 t373).f0))) (fun _ hk => hk.2) (.string ((rd_T45 l0_2 t373).f1))) (fun _ h_ => h_.1)))); (case side2 => exact (Kd.R_reads' HO0_2.out).2.1); rintro e w67 ⟨v377, rfl, ho0, hb⟩; refine ⟨_, rfl, ?_⟩; have n0_ := Aside0.mk (Kd.R_elder' (by (with_reducible repeat (first | apply Kd.R_alloc | apply Kd.R_drewN | apply Kd.R_drew)); exact (Kd.R_mono (Kd.R_far (p := ⟨gb375, 1, none⟩) (Kd.R_far (p := ⟨gb375, 0, none⟩) (Kd.R_mono HO0_2.out (fun k_ hk => (⟨hk, hk.2⟩ : _ ∧ k_ ≠ gb375))) (fun _ hk => hk.2) (.string ((rd_T45 l0_2 t373).f0))) (fun _ hk => hk.2) (.string ((rd_T45 l0_2 t373).f1))) (fun _ h_ => h_.1))) (Kd.R_base ho0) hb); have n1_ := Aside0.mk (Kd.R_elder' (by (with_reducible repeat (first | apply Kd.R_alloc | apply Kd.R_drewN | apply Kd.R_drew)); exact (Kd.R_mono (Kd.R_far (p := ⟨gb375, 1, none⟩) (Kd.R_far (p := ⟨gb375, 0, none⟩) (Kd.R_mono HO0_3.out (fun k_ hk => (⟨hk, hk.2⟩ : _ ∧ k_ ≠ gb375))) (fun _ hk => hk.2) (.string ((rd_T45 l0_2 t373).f0))) (fun _ hk => hk.2) (.string ((rd_T45 l0_2 t373).f1))) (fun _ h_ => h_.1))) (Kd.R_base ho0) hb); have n2_ := Aside0.mk (Kd.R_lower (Kd.R_newB (Kd.R_new' (Kd.R_new' (Kd.R_newM (M := fun k_ => ((P0_2_ k_ ∨ P0_3_ k_) ∨ w.heap.size ≤ k_)) ho0 (show Kept w _ (fun k_ => P0_2_ k_ ∨ P0_3_ k_) from by repeat (first | (with_reducible first | exact HK.out | apply Kept.alloc | apply Kept.drewN | apply Kept.drew | refine Kept.setCell ?_ (.inr GW362.out) _ | refine Kept.setCell ?_ (.inr GW363.out) _ | refine Kept.setCell ?_ (.inr GW375.out) _) | exact HK.out)).1 (fun k_ h_ => .inr h_)) (Kd.R_lt (by (with_reducible repeat (first | apply Kd.R_alloc | apply Kd.R_drewN | apply Kd.R_drew)); exact (Kd.R_mono (Kd.R_far (p := ⟨gb375, 1, none⟩) (Kd.R_far (p := ⟨gb375, 0, none⟩) (Kd.R_mono HO0_2.out (fun k_ hk => (⟨hk, hk.2⟩ : _ ∧ k_ ≠ gb375))) (fun _ hk => hk.2) (.string ((rd_T45 l0_2 t373).f0))) (fun _ hk => hk.2) (.string ((rd_T45 l0_2 t373).f1))) (fun _ h_ => h_.1))))) (Kd.R_lt (by (with_reducible repeat (first | apply Kd.R_alloc | apply Kd.R_drewN | apply Kd.R_drew)); exact (Kd.R_mono (Kd.R_far (p := ⟨gb375, 1, none⟩) (Kd.R_far (p := ⟨gb375, 0, none⟩) (Kd.R_mono HO0_3.out (fun k_ hk => (⟨hk, hk.2⟩ : _ ∧ k_ ≠ gb375))) (fun _ hk => hk.2) (.string ((rd_T45 l0_2 t373).f0))) (fun _ hk => hk.2) (.string ((rd_T45 l0_2 t373).f1))) (fun _ h_ => h_.1))))) (g := gb375) (o := .cells #[.string ((rd_T45 l0_2 t373).f0), .string ((rd_T45 l0_2 t373).f1)] 45 (0, 0)) (by (with_reducible repeat (first | refine blk_drewN ?_ _ | refine blk_drew ?_ | refine blk_alloc ?_ _)); refine blk_put (cs := #[.string ((rd_T45 l0_2 t373).f0), .string (⟨#[]⟩ : ByteArray)]) ?_ 1 _ rfl; (with_reducible repeat (first | refine blk_drewN ?_ _ | refine blk_drew ?_ | refine blk_alloc ?_ _)); refine blk_put (cs := #[.string (⟨#[]⟩ : ByteArray), .string (⟨#[]⟩ : ByteArray)]) ?_ 0 _ rfl; exact bk BK375.out)) (below_size (bl3 HB.out GE362.out GE363.out GE375.out))); have n3_ := Aside0.mk (blk_below (g := gb362) (o := .cells #[.int .i64 a0_0, .int .i64 a0_1, .slice (some ad374) l0_2.length co52, .slice Ao53 l0_3.length co53] 28 (0, 0)) (by (with_reducible repeat (first | refine blk_drewN ?_ _ | refine blk_drew ?_ | refine blk_alloc ?_ _)); refine blk_far ?_ NB362_375.out _; (with_reducible repeat (first | refine blk_drewN ?_ _ | refine blk_drew ?_ | refine blk_alloc ?_ _)); refine blk_far ?_ NB362_375.out _; exact bk BK362.out) hb); have n4_ := Aside0.mk (blk_below (g := gb363) (o := .cells #[.int .i64 0, .int .i64 0, .slice none 0 0, .slice none 0 0] 28 (0, 0)) (by (with_reducible repeat (first | refine blk_drewN ?_ _ | refine blk_drew ?_ | refine blk_alloc ?_ _)); refine blk_far ?_ NB363_375.out _; (with_reducible repeat (first | refine blk_drewN ?_ _ | refine blk_drew ?_ | refine blk_alloc ?_ _)); refine blk_far ?_ NB363_375.out _; exact bk BK363.out) hb); have n5_ := Aside0.mk (blk_below (g := gb375) (o := .cells #[.string ((rd_T45 l0_2 t373).f0), .string ((rd_T45 l0_2 t373).f1)] 45 (0, 0)) (by (with_reducible repeat (first | refine blk_drewN ?_ _ | refine blk_drew ?_ | refine blk_alloc ?_ _)); refine blk_put (cs := #[.string ((rd_T45 l0_2 t373).f0), .string (⟨#[]⟩ : ByteArray)]) ?_ 1 _ rfl; (with_reducible repeat (first | refine blk_drewN ?_ _ | refine blk_drew ?_ | refine blk_alloc ?_ _)); refine blk_put (cs := #[.string (⟨#[]⟩ : ByteArray), .string (⟨#[]⟩ : ByteArray)]) ?_ 0 _ rfl; exact bk BK375.out) hb); have n6_ := Aside0.mk (Kept.below (S := (fun k_ => P0_2_ k_ ∨ P0_3_ k_)) (by repeat (first | (with_reducible first | exact HK.out | apply Kept.alloc | apply Kept.drewN | apply Kept.drew | refine Kept.setCell ?_ (.inr GW362.out) _ | refine Kept.setCell ?_ (.inr GW363.out) _ | refine Kept.setCell ?_ (.inr GW375.out) _) | exact HK.out)) hb); have n7_ := Aside0.mk (below_step (bl3 HB.out GE362.out GE363.out GE375.out) hb); clear HO0_2; clear HO0_3; clear BK362; clear BK363; clear BK375; clear HK; clear HB; have HO0_2 := n0_; have HO0_3 := n1_; have HO378 := n2_; have BK362 := n3_; have BK363 := n4_; have BK375 := n5_; have HK := n6_; have HB := n7_; clear n0_ n1_ n2_ n3_ n4_ n5_ n6_ n7_; (try clear hb); (try clear hb2); (try clear hk); (try clear hi); (try clear ho0); obtain ⟨Ao68, co68, eo68⟩ := Kd.R_slice HO378.out; subst eo68; have hcz69_0 := bc0 BK362.out; have hcz69_1 := bc1 BK362.out; have hcz69_2 := bc2 BK362.out; have hcz69_3 := bc3 BK362.out; have hfz69_0 := blk_frozen BK362.out 0; have hfz69_1 := blk_frozen BK362.out 1; have hfz69_2 := blk_frozen BK362.out 2; have hfz69_3 := blk_frozen BK362.out 3; have hcz70_0 := bc0 BK375.out; have hcz70_1 := bc1 BK375.out; have hfz70_0 := blk_frozen BK375.out 0; have hfz70_1 := blk_frozen BK375.out 1) | ((with_reducible refine gate_callee (f := 80) rfl ?_); refine goesL_ (some 52) rfl rfl Try.func80 (by kernel_rfl) rfl #[.slice Ao53 l0_3.length co53, .agg #[.string ((rd_T45 l0_2 t373).f0), .string ((rd_T45 l0_2 t373).f1)]] rfl (by (try simp only [List.map_toArray, List.map_cons, List.map_nil]); first | done | rfl | (simp only [List.length_drop, List.length_take]; rfl)) ?_; (with_reducible refine (spec_l12Ahead.calls _ _ l0_3 ((rd_T45 l0_2 t373).f0) ((rd_T45 l0_2 t373).f1) t379 _ ?side1 ?side2 A50.out).mono ?_); (case side1 => refine (Kd.R_reads' (e := 45) (base := w0.heap.size) (ok := fun k_ => (((((P0_2_ k_ ∨ P0_3_ k_) ∨ w.heap.size ≤ k_) ∧ some k_ ≠ (.slice (some ad374) l0_2.length co52 : Value).ownBlock) ∧ k_ ≠ gb375) ∧ some k_ ≠ (.slice Ao68 t376.length co68 : Value).ownBlock)) (n := l0_3.length) (c := co53) ?_).2.2; exact (by (with_reducible repeat (first | apply Kd.R_alloc | apply Kd.R_drewN | apply Kd.R_drew)); exact (Kd.R_mono (Kd.R_far (p := ⟨gb362, 2, none⟩) (Kd.R_types HO0_3.out BK362.out (by decide)) (fun _ hk => hk.2) (.slice Ao68 t376.length co68)) (fun _ h_ => h_.1)))); (case side2 => exact (Kd.R_reads' HO0_3.out).2.1); rintro e w71 ⟨v380, rfl, ho0, hb⟩; refine ⟨_, rfl, ?_⟩; have n0_ := Aside0.mk (Kd.R_elder' (by (with_reducible repeat (first | apply Kd.R_alloc | apply Kd.R_drewN | apply Kd.R_drew)); exact (Kd.R_mono (Kd.R_far (p := ⟨gb362, 2, none⟩) (Kd.R_types HO0_2.out BK362.out (by decide)) (fun _ hk => hk.2) (.slice Ao68 t376.length co68)) (fun _ h_ => h_.1))) (Kd.R_base ho0) hb); have n1_ := Aside0.mk (Kd.R_elder' (by (with_reducible repeat (first | apply Kd.R_alloc | apply Kd.R_drewN | apply Kd.R_drew)); exact (Kd.R_mono (Kd.R_far (p := ⟨gb362, 2, none⟩) (Kd.R_types HO0_3.out BK362.out (by decide)) (fun _ hk => hk.2) (.slice Ao68 t376.length co68)) (fun _ h_ => h_.1))) (Kd.R_base ho0) hb); have n2_ := Aside0.mk (Kd.R_elder' (by (with_reducible repeat (first | apply Kd.R_alloc | apply Kd.R_drewN | apply Kd.R_drew)); exact (Kd.R_mono (Kd.R_far (p := ⟨gb362, 2, none⟩) (Kd.R_types HO378.out BK362.out (by decide)) (fun _ hk => hk.2) (.slice Ao68 t376.length co68)) (fun _ h_ => h_.1))) (Kd.R_base ho0) hb); have n3_ := Aside0.mk (Kd.R_lower (Kd.R_newB (Kd.R_new' (Kd.R_new' (Kd.R_new' (Kd.R_newM (M := fun k_ => ((P0_2_ k_ ∨ P0_3_ k_) ∨ w.heap.size ≤ k_)) ho0 (show Kept w _ (fun k_ => P0_2_ k_ ∨ P0_3_ k_) from by repeat (first | (with_reducible first | exact HK.out | apply Kept.alloc | apply Kept.drewN | apply Kept.drew | refine Kept.setCell ?_ (.inr GW362.out) _ | refine Kept.setCell ?_ (.inr GW363.out) _ | refine Kept.setCell ?_ (.inr GW375.out) _) | exact HK.out)).1 (fun k_ h_ => .inr h_)) (Kd.R_lt (by (with_reducible repeat (first | apply Kd.R_alloc | apply Kd.R_drewN | apply Kd.R_drew)); exact (Kd.R_mono (Kd.R_far (p := ⟨gb362, 2, none⟩) (Kd.R_types HO0_2.out BK362.out (by decide)) (fun _ hk => hk.2) (.slice Ao68 t376.length co68)) (fun _ h_ => h_.1))))) (Kd.R_lt (by (with_reducible repeat (first | apply Kd.R_alloc | apply Kd.R_drewN | apply Kd.R_drew)); exact (Kd.R_mono (Kd.R_far (p := ⟨gb362, 2, none⟩) (Kd.R_types HO0_3.out BK362.out (by decide)) (fun _ hk => hk.2) (.slice Ao68 t376.length co68)) (fun _ h_ => h_.1))))) (Kd.R_lt (by (with_reducible repeat (first | apply Kd.R_alloc | apply Kd.R_drewN | apply Kd.R_drew)); exact (Kd.R_mono (Kd.R_far (p := ⟨gb362, 2, none⟩) (Kd.R_types HO378.out BK362.out (by decide)) (fun _ hk => hk.2) (.slice Ao68 t376.length co68)) (fun _ h_ => h_.1))))) (g := gb375) (o := .cells #[.string ((rd_T45 l0_2 t373).f0), .string ((rd_T45 l0_2 t373).f1)] 45 (0, 0)) (by (with_reducible repeat (first | refine blk_drewN ?_ _ | refine blk_drew ?_ | refine blk_alloc ?_ _)); refine blk_far ?_ NB375_362.out _; exact bk BK375.out)) (below_size (bl3 HB.out GE362.out GE363.out GE375.out))); have n4_ := Aside0.mk (blk_below (g := gb362) (o := .cells #[.int .i64 a0_0, .int .i64 a0_1, .slice Ao68 t376.length co68, .slice Ao53 l0_3.length co53] 28 (0, 0)) (by (with_reducible repeat (first | refine blk_drewN ?_ _ | refine blk_drew ?_ | refine blk_alloc ?_ _)); refine blk_put (cs := #[.int .i64 a0_0, .int .i64 a0_1, .slice (some ad374) l0_2.length co52, .slice Ao53 l0_3.length co53]) ?_ 2 _ rfl; exact bk BK362.out) hb); have n5_ := Aside0.mk (blk_below (g := gb363) (o := .cells #[.int .i64 0, .int .i64 0, .slice none 0 0, .slice none 0 0] 28 (0, 0)) (by (with_reducible repeat (first | refine blk_drewN ?_ _ | refine blk_drew ?_ | refine blk_alloc ?_ _)); refine blk_far ?_ NB363_362.out _; exact bk BK363.out) hb); have n6_ := Aside0.mk (blk_below (g := gb375) (o := .cells #[.string ((rd_T45 l0_2 t373).f0), .string ((rd_T45 l0_2 t373).f1)] 45 (0, 0)) (by (with_reducible repeat (first | refine blk_drewN ?_ _ | refine blk_drew ?_ | refine blk_alloc ?_ _)); refine blk_far ?_ NB375_362.out _; exact bk BK375.out) hb); have n7_ := Aside0.mk (Kept.below (S := (fun k_ => P0_2_ k_ ∨ P0_3_ k_)) (by repeat (first | (with_reducible first | exact HK.out | apply Kept.alloc | apply Kept.drewN | apply Kept.drew | refine Kept.setCell ?_ (.inr GW362.out) _ | refine Kept.setCell ?_ (.inr GW363.out) _ | refine Kept.setCell ?_ (.inr GW375.out) _) | exact HK.out)) hb); have n8_ := Aside0.mk (below_step (bl3 HB.out GE362.out GE363.out GE375.out) hb); clear HO0_2; clear HO0_3; clear HO378; clear BK362; clear BK363; clear BK375; clear HK; clear HB; have HO0_2 := n0_; have HO0_3 := n1_; have HO378 := n2_; have HO381 := n3_; have BK362 := n4_; have BK363 := n5_; have BK375 := n6_; have HK := n7_; have HB := n8_; clear n0_ n1_ n2_ n3_ n4_ n5_ n6_ n7_ n8_; (try clear hb); (try clear hb2); (try clear hk); (try clear hi); (try clear ho0); obtain ⟨Ao72, co72, eo72⟩ := Kd.R_slice HO381.out; subst eo72; have hcz73_0 := bc0 BK362.out; have hcz73_1 := bc1 BK362.out; have hcz73_2 := bc2 BK362.out; have hcz73_3 := bc3 BK362.out; have hfz73_0 := blk_frozen BK362.out 0; have hfz73_1 := blk_frozen BK362.out 1; have hfz73_2 := blk_frozen BK362.out 2; have hfz73_3 := blk_frozen BK362.out 3) | ((with_reducible refine gate_store (t := 26) (p := 53) rfl ?_); refine store_event (t := 26) (p := 53) (v := ?vo_w74) (w1 := (w71.setCell ⟨gb362, 3, none⟩ (.slice Ao72 t379.length co72))) ?hg ?ho ?hn ?hr ?_; (case ho => rfl); (case hg => rfl); (case hn => rfl); (case hr => first | (go_simp; done) | (go_simp; rfl)); intro w74 hw; have n0_ : Aside0 (Kd.R k45 45 w74 w0.heap.size (fun k_ => ((P0_2_ k_ ∨ P0_3_ k_) ∨ w.heap.size ≤ k_) ∧ some k_ ≠ (.slice Ao53 l0_3.length co53 : Value).ownBlock ∧ some k_ ≠ (.slice Ao68 t376.length co68 : Value).ownBlock ∧ some k_ ≠ (.slice Ao72 t379.length co72 : Value).ownBlock ∧ k_ ≠ gb375) (.slice (some ad374) l0_2.length co52) l0_2) := ⟨(by rw [hw]; exact (by (with_reducible repeat (first | apply Kd.R_alloc | apply Kd.R_drewN | apply Kd.R_drew)); exact Kd.R_mono (Kd.R_far (p := ⟨gb362, 3, none⟩) (Kd.R_types HO0_2.out BK362.out (by decide)) (fun _ hk => hk.2) (.slice Ao72 t379.length co72)) (fun _ hk => ⟨hk.1.1.1.1.1, ⟨hk.1.1.1.1.2, ⟨hk.1.1.2, ⟨hk.1.2, hk.1.1.1.2⟩⟩⟩⟩)))⟩; have n1_ : Aside0 (Kd.R k45 45 w74 w0.heap.size (fun k_ => ((P0_2_ k_ ∨ P0_3_ k_) ∨ w.heap.size ≤ k_) ∧ some k_ ≠ (.slice (some ad374) l0_2.length co52 : Value).ownBlock ∧ some k_ ≠ (.slice Ao68 t376.length co68 : Value).ownBlock ∧ some k_ ≠ (.slice Ao72 t379.length co72 : Value).ownBlock ∧ k_ ≠ gb375) (.slice Ao53 l0_3.length co53) l0_3) := ⟨(by rw [hw]; exact (by (with_reducible repeat (first | apply Kd.R_alloc | apply Kd.R_drewN | apply Kd.R_drew)); exact Kd.R_mono (Kd.R_far (p := ⟨gb362, 3, none⟩) (Kd.R_types HO0_3.out BK362.out (by decide)) (fun _ hk => hk.2) (.slice Ao72 t379.length co72)) (fun _ hk => ⟨hk.1.1.1.1.1, ⟨hk.1.1.1.1.2, ⟨hk.1.1.2, ⟨hk.1.2, hk.1.1.1.2⟩⟩⟩⟩)))⟩; have n2_ : Aside0 (Kd.R k45 45 w74 w0.heap.size (fun k_ => ((P0_2_ k_ ∨ P0_3_ k_) ∨ w.heap.size ≤ k_) ∧ some k_ ≠ (.slice (some ad374) l0_2.length co52 : Value).ownBlock ∧ some k_ ≠ (.slice Ao53 l0_3.length co53 : Value).ownBlock ∧ some k_ ≠ (.slice Ao72 t379.length co72 : Value).ownBlock ∧ k_ ≠ gb375) (.slice Ao68 t376.length co68) t376) := ⟨(by rw [hw]; exact (by (with_reducible repeat (first | apply Kd.R_alloc | apply Kd.R_drewN | apply Kd.R_drew)); exact Kd.R_mono (Kd.R_far (p := ⟨gb362, 3, none⟩) (Kd.R_types HO378.out BK362.out (by decide)) (fun _ hk => hk.2) (.slice Ao72 t379.length co72)) (fun _ hk => ⟨hk.1.1.1.1.1.1, ⟨hk.1.1.1.1.2, ⟨hk.1.1.1.2, ⟨hk.1.2, hk.1.1.2⟩⟩⟩⟩)))⟩; have n3_ : Aside0 (Kd.R k45 45 w74 w0.heap.size (fun k_ => ((P0_2_ k_ ∨ P0_3_ k_) ∨ w.heap.size ≤ k_) ∧ some k_ ≠ (.slice (some ad374) l0_2.length co52 : Value).ownBlock ∧ some k_ ≠ (.slice Ao53 l0_3.length co53 : Value).ownBlock ∧ some k_ ≠ (.slice Ao68 t376.length co68 : Value).ownBlock ∧ k_ ≠ gb375) (.slice Ao72 t379.length co72) t379) := ⟨(by rw [hw]; exact (by (with_reducible repeat (first | apply Kd.R_alloc | apply Kd.R_drewN | apply Kd.R_drew)); exact Kd.R_mono (Kd.R_far (p := ⟨gb362, 3, none⟩) (Kd.R_types HO381.out BK362.out (by decide)) (fun _ hk => hk.2) (.slice Ao72 t379.length co72)) (fun _ hk => ⟨hk.1.1.1.1.1.1, ⟨hk.1.1.1.1.2, ⟨hk.1.1.1.2, ⟨hk.1.1.2, hk.1.2⟩⟩⟩⟩)))⟩; have n4_ : Aside0 (w74.heap[gb362]? = some (.cells #[.int .i64 a0_0, .int .i64 a0_1, .slice Ao68 t376.length co68, .slice Ao72 t379.length co72] 28 (0, 0))) := ⟨(by rw [hw]; exact (by (with_reducible repeat (first | refine blk_drewN ?_ _ | refine blk_drew ?_ | refine blk_alloc ?_ _)); refine blk_put (cs := #[.int .i64 a0_0, .int .i64 a0_1, .slice Ao68 t376.length co68, .slice Ao53 l0_3.length co53]) ?_ 3 _ rfl; exact bk BK362.out))⟩; have n5_ : Aside0 (w74.heap[gb363]? = some (.cells #[.int .i64 0, .int .i64 0, .slice none 0 0, .slice none 0 0] 28 (0, 0))) := ⟨(by rw [hw]; exact (by (with_reducible repeat (first | refine blk_drewN ?_ _ | refine blk_drew ?_ | refine blk_alloc ?_ _)); refine blk_far ?_ NB363_362.out _; exact bk BK363.out))⟩; have n6_ : Aside0 (w74.heap[gb375]? = some (.cells #[.string ((rd_T45 l0_2 t373).f0), .string ((rd_T45 l0_2 t373).f1)] 45 (0, 0))) := ⟨(by rw [hw]; exact (by (with_reducible repeat (first | refine blk_drewN ?_ _ | refine blk_drew ?_ | refine blk_alloc ?_ _)); refine blk_far ?_ NB375_362.out _; exact bk BK375.out))⟩; have n7_ : Aside0 (Kept w w74 (fun k_ => P0_2_ k_ ∨ P0_3_ k_)) := ⟨(by rw [hw]; exact (by repeat (first | (with_reducible first | exact HK.out | apply Kept.alloc | apply Kept.drewN | apply Kept.drew | refine Kept.setCell ?_ (.inr GW362.out) _ | refine Kept.setCell ?_ (.inr GW363.out) _ | refine Kept.setCell ?_ (.inr GW375.out) _) | exact HK.out)))⟩; have n8_ : Aside0 (Below w0.heap.size w0 w74) := ⟨(by rw [hw]; exact (bl3 HB.out GE362.out GE363.out GE375.out))⟩; clear hw; clear HO0_2; clear HO0_3; clear HO378; clear HO381; clear BK362; clear BK363; clear BK375; clear HK; clear HB; have HO0_2 := n0_; have HO0_3 := n1_; have HO378 := n2_; have HO381 := n3_; have BK362 := n4_; have BK363 := n5_; have BK375 := n6_; have HK := n7_; have HB := n8_; clear n0_ n1_ n2_ n3_ n4_ n5_ n6_ n7_ n8_; have hcz75_0 := bc0 BK362.out; have hcz75_1 := bc1 BK362.out; have hcz75_2 := bc2 BK362.out; have hcz75_3 := bc3 BK362.out; have hfz75_0 := blk_frozen BK362.out 0; have hfz75_1 := blk_frozen BK362.out 1; have hfz75_2 := blk_frozen BK362.out 2; have hfz75_3 := blk_frozen BK362.out 3) | ((with_reducible refine gate_callee (f := 81) rfl ?_); refine goesL_ (some 56) rfl rfl Try.func81 (by kernel_rfl) rfl #[.agg #[.int .i64 a0_0, .int .i64 a0_1, .slice Ao68 t376.length co68, .slice Ao72 t379.length co72]] rfl (by (try simp only [List.map_toArray, List.map_cons, List.map_nil]); first | done | rfl | (simp only [List.length_drop, List.length_take]; rfl)) ?_; (with_reducible refine (spec_l12Fit.calls k a0_0 a0_1 (fun k_ => some k_ = (.slice Ao68 t376.length co68 : Value).ownBlock) _ _ t376 (fun k_ => some k_ = (.slice Ao72 t379.length co72 : Value).ownBlock) _ _ t379 t382 t383 t384 t387 t390 _ ?side1 ?side2 A51.out).mono ?_); (case side1 => exact Kd.R_V (Kd.R_tight rfl (Kd.R_types (Kd.R_types (HO378.out) BK362.out (by decide)) BK363.out (by decide)))); (case side2 => exact Kd.R_V (Kd.R_tight rfl (Kd.R_types (Kd.R_types (HO381.out) BK362.out (by decide)) BK363.out (by decide)))); rintro e w76 ⟨v385, v388, v391, rfl, ho0, ho1, ho2, hb⟩; refine ⟨_, rfl, ?_⟩; have n0_ := Aside0.mk (Kd.R_mono (Kd.R_told (Kd.R_told (Kd.R_told (Kd.R_old (kr HO0_2.out) hb) (Kd.R_base ho0)) (Kd.R_base ho1)) (Kd.R_base ho2)) (fun _ h_ => h_.1)); have n1_ := Aside0.mk (Kd.R_mono (Kd.R_told (Kd.R_told (Kd.R_told (Kd.R_old (kr HO0_3.out) hb) (Kd.R_base ho0)) (Kd.R_base ho1)) (Kd.R_base ho2)) (fun _ h_ => h_.1)); have n2_ := Aside0.mk (Kd.R_mono (Kd.R_told (Kd.R_told (Kd.R_told (Kd.R_old (kr HO378.out) hb) (Kd.R_base ho0)) (Kd.R_base ho1)) (Kd.R_base ho2)) (fun _ h_ => h_.1)); have n3_ := Aside0.mk (Kd.R_mono (Kd.R_told (Kd.R_told (Kd.R_told (Kd.R_old (kr HO381.out) hb) (Kd.R_base ho0)) (Kd.R_base ho1)) (Kd.R_base ho2)) (fun _ h_ => h_.1)); have n4_ := Aside0.mk (Kd.R_lower (Kd.R_newB (Kd.R_new' (Kd.R_new' (Kd.R_new' (Kd.R_new' (Kd.R_newM (M := fun k_ => ((P0_2_ k_ ∨ P0_3_ k_) ∨ w.heap.size ≤ k_)) (Kd.R_mono (ok' := fun k_ => some k_ ≠ (v388 : Value).ownBlock ∧ some k_ ≠ (v391 : Value).ownBlock) ho0 (fun _ hk_ => hk_.2)) (by first | exact HK.out.1 | exact (show Kept w _ (fun k_ => P0_2_ k_ ∨ P0_3_ k_) from by repeat (first | (with_reducible first | exact HK.out | apply Kept.alloc | apply Kept.drewN | apply Kept.drew | refine Kept.setCell ?_ (.inr GW362.out) _ | refine Kept.setCell ?_ (.inr GW363.out) _ | refine Kept.setCell ?_ (.inr GW375.out) _) | exact HK.out)).1) (fun k_ h_ => .inr h_)) (Kd.R_lt (kr HO0_2.out))) (Kd.R_lt (kr HO0_3.out))) (Kd.R_lt (kr HO378.out))) (Kd.R_lt (kr HO381.out))) (bk BK375.out)) (below_size (bl3 HB.out GE362.out GE363.out GE375.out))); have n5_ := Aside0.mk (Kd.R_lower (Kd.R_newB (Kd.R_new' (Kd.R_new' (Kd.R_new' (Kd.R_new' (Kd.R_newM (M := fun k_ => ((P0_2_ k_ ∨ P0_3_ k_) ∨ w.heap.size ≤ k_)) (Kd.R_mono (ok' := fun k_ => some k_ ≠ (v385 : Value).ownBlock ∧ some k_ ≠ (v391 : Value).ownBlock) ho1 (fun _ hk_ => hk_.2)) (by first | exact HK.out.1 | exact (show Kept w _ (fun k_ => P0_2_ k_ ∨ P0_3_ k_) from by repeat (first | (with_reducible first | exact HK.out | apply Kept.alloc | apply Kept.drewN | apply Kept.drew | refine Kept.setCell ?_ (.inr GW362.out) _ | refine Kept.setCell ?_ (.inr GW363.out) _ | refine Kept.setCell ?_ (.inr GW375.out) _) | exact HK.out)).1) (fun k_ h_ => .inr h_)) (Kd.R_lt (kr HO0_2.out))) (Kd.R_lt (kr HO0_3.out))) (Kd.R_lt (kr HO378.out))) (Kd.R_lt (kr HO381.out))) (bk BK375.out)) (below_size (bl3 HB.out GE362.out GE363.out GE375.out))); have n6_ := Aside0.mk (Kd.R_lower (Kd.R_newB (Kd.R_new' (Kd.R_new' (Kd.R_new' (Kd.R_new' (Kd.R_newM (M := fun k_ => ((P0_2_ k_ ∨ P0_3_ k_) ∨ w.heap.size ≤ k_)) (Kd.R_mono (ok' := fun k_ => some k_ ≠ (v385 : Value).ownBlock ∧ some k_ ≠ (v388 : Value).ownBlock) ho2 (fun _ hk_ => hk_.2)) (by first | exact HK.out.1 | exact (show Kept w _ (fun k_ => P0_2_ k_ ∨ P0_3_ k_) from by repeat (first | (with_reducible first | exact HK.out | apply Kept.alloc | apply Kept.drewN | apply Kept.drew | refine Kept.setCell ?_ (.inr GW362.out) _ | refine Kept.setCell ?_ (.inr GW363.out) _ | refine Kept.setCell ?_ (.inr GW375.out) _) | exact HK.out)).1) (fun k_ h_ => .inr h_)) (Kd.R_lt (kr HO0_2.out))) (Kd.R_lt (kr HO0_3.out))) (Kd.R_lt (kr HO378.out))) (Kd.R_lt (kr HO381.out))) (bk BK375.out)) (below_size (bl3 HB.out GE362.out GE363.out GE375.out))); have n7_ := Aside0.mk (blk_below (bk BK362.out) hb); have n8_ := Aside0.mk (blk_below (bk BK363.out) hb); have n9_ := Aside0.mk (blk_below (bk BK375.out) hb); have n10_ := Aside0.mk (Kept.below (S := (fun k_ => P0_2_ k_ ∨ P0_3_ k_)) (by repeat (first | (with_reducible first | exact HK.out | apply Kept.alloc | apply Kept.drewN | apply Kept.drew | refine Kept.setCell ?_ (.inr GW362.out) _ | refine Kept.setCell ?_ (.inr GW363.out) _ | refine Kept.setCell ?_ (.inr GW375.out) _) | exact HK.out)) hb); have n11_ := Aside0.mk (below_step (bl3 HB.out GE362.out GE363.out GE375.out) hb); clear HO0_2; clear HO0_3; clear HO378; clear HO381; clear BK362; clear BK363; clear BK375; clear HK; clear HB; have HO0_2 := n0_; have HO0_3 := n1_; have HO378 := n2_; have HO381 := n3_; have HO386 := n4_; have HO389 := n5_; have HO392 := n6_; have BK362 := n7_; have BK363 := n8_; have BK375 := n9_; have HK := n10_; have HB := n11_; clear n0_ n1_ n2_ n3_ n4_ n5_ n6_ n7_ n8_ n9_ n10_ n11_; (try clear hb); (try clear hb2); (try clear hk); (try clear hi); (try clear ho0); (try clear ho1); (try clear ho2); have hcz77_0 := bc0 BK362.out; have hcz77_1 := bc1 BK362.out; have hcz77_2 := bc2 BK362.out; have hcz77_3 := bc3 BK362.out; have hfz77_0 := blk_frozen BK362.out 0; have hfz77_1 := blk_frozen BK362.out 1; have hfz77_2 := blk_frozen BK362.out 2; have hfz77_3 := blk_frozen BK362.out 3; obtain ⟨Ao78, co78, eo78⟩ := Kd.R_slice HO386.out; subst eo78; obtain ⟨Ao79, co79, eo79⟩ := Kd.R_slice HO389.out; subst eo79))
     have n0_ : Aside0 (Kd.R k45 45 ((((w76.setCell ⟨gb362, 0, none⟩ (.int .i64 t382)).setCell ⟨gb362, 1, none⟩ (.int .i64 t383)).setCell ⟨gb362, 2, none⟩ (.slice Ao78 t384.length co78)).setCell ⟨gb362, 3, none⟩ (.slice Ao79 t387.length co79)) w0.heap.size (fun k_ => ((P0_2_ k_ ∨ P0_3_ k_) ∨ w.heap.size ≤ k_) ∧ some k_ ≠ (.slice Ao53 l0_3.length co53 : Value).ownBlock ∧ some k_ ≠ (.slice Ao68 t376.length co68 : Value).ownBlock ∧ some k_ ≠ (.slice Ao72 t379.length co72 : Value).ownBlock ∧ some k_ ≠ (.slice Ao78 t384.length co78 : Value).ownBlock ∧ some k_ ≠ (.slice Ao79 t387.length co79 : Value).ownBlock ∧ some k_ ≠ (v391 : Value).ownBlock ∧ k_ ≠ gb375) (.slice (some ad374) l0_2.length co52) l0_2) := ⟨by (with_reducible repeat (first | apply Kd.R_alloc | apply Kd.R_drewN | apply Kd.R_drew)); exact Kd.R_mono (Kd.R_far (p := ⟨gb362, 3, none⟩) (Kd.R_far (p := ⟨gb362, 2, none⟩) (Kd.R_far (p := ⟨gb362, 1, none⟩) (Kd.R_far (p := ⟨gb362, 0, none⟩) (Kd.R_types HO0_2.out BK362.out (by decide)) (fun _ hk => hk.2) (.int .i64 t382)) (fun _ hk => hk.2) (.int .i64 t383)) (fun _ hk => hk.2) (.slice Ao78 t384.length co78)) (fun _ hk => hk.2) (.slice Ao79 t387.length co79)) (fun _ hk => ⟨hk.1.1.1.1.1, ⟨hk.1.1.1.1.2.1, ⟨hk.1.1.1.1.2.2.1, ⟨hk.1.1.1.1.2.2.2.1, ⟨hk.1.1.1.2, ⟨hk.1.1.2, ⟨hk.1.2, hk.1.1.1.1.2.2.2.2⟩⟩⟩⟩⟩⟩⟩)⟩
     have n1_ : Aside0 (Kd.R k45 45 ((((w76.setCell ⟨gb362, 0, none⟩ (.int .i64 t382)).setCell ⟨gb362, 1, none⟩ (.int .i64 t383)).setCell ⟨gb362, 2, none⟩ (.slice Ao78 t384.length co78)).setCell ⟨gb362, 3, none⟩ (.slice Ao79 t387.length co79)) w0.heap.size (fun k_ => ((P0_2_ k_ ∨ P0_3_ k_) ∨ w.heap.size ≤ k_) ∧ some k_ ≠ (.slice (some ad374) l0_2.length co52 : Value).ownBlock ∧ some k_ ≠ (.slice Ao68 t376.length co68 : Value).ownBlock ∧ some k_ ≠ (.slice Ao72 t379.length co72 : Value).ownBlock ∧ some k_ ≠ (.slice Ao78 t384.length co78 : Value).ownBlock ∧ some k_ ≠ (.slice Ao79 t387.length co79 : Value).ownBlock ∧ some k_ ≠ (v391 : Value).ownBlock ∧ k_ ≠ gb375) (.slice Ao53 l0_3.length co53) l0_3) := ⟨by (with_reducible repeat (first | apply Kd.R_alloc | apply Kd.R_drewN | apply Kd.R_drew)); exact Kd.R_mono (Kd.R_far (p := ⟨gb362, 3, none⟩) (Kd.R_far (p := ⟨gb362, 2, none⟩) (Kd.R_far (p := ⟨gb362, 1, none⟩) (Kd.R_far (p := ⟨gb362, 0, none⟩) (Kd.R_types HO0_3.out BK362.out (by decide)) (fun _ hk => hk.2) (.int .i64 t382)) (fun _ hk => hk.2) (.int .i64 t383)) (fun _ hk => hk.2) (.slice Ao78 t384.length co78)) (fun _ hk => hk.2) (.slice Ao79 t387.length co79)) (fun _ hk => ⟨hk.1.1.1.1.1, ⟨hk.1.1.1.1.2.1, ⟨hk.1.1.1.1.2.2.1, ⟨hk.1.1.1.1.2.2.2.1, ⟨hk.1.1.1.2, ⟨hk.1.1.2, ⟨hk.1.2, hk.1.1.1.1.2.2.2.2⟩⟩⟩⟩⟩⟩⟩)⟩
     have n2_ : Aside0 (Kd.R k45 45 ((((w76.setCell ⟨gb362, 0, none⟩ (.int .i64 t382)).setCell ⟨gb362, 1, none⟩ (.int .i64 t383)).setCell ⟨gb362, 2, none⟩ (.slice Ao78 t384.length co78)).setCell ⟨gb362, 3, none⟩ (.slice Ao79 t387.length co79)) w0.heap.size (fun k_ => ((P0_2_ k_ ∨ P0_3_ k_) ∨ w.heap.size ≤ k_) ∧ some k_ ≠ (.slice (some ad374) l0_2.length co52 : Value).ownBlock ∧ some k_ ≠ (.slice Ao53 l0_3.length co53 : Value).ownBlock ∧ some k_ ≠ (.slice Ao72 t379.length co72 : Value).ownBlock ∧ some k_ ≠ (.slice Ao78 t384.length co78 : Value).ownBlock ∧ some k_ ≠ (.slice Ao79 t387.length co79 : Value).ownBlock ∧ some k_ ≠ (v391 : Value).ownBlock ∧ k_ ≠ gb375) (.slice Ao68 t376.length co68) t376) := ⟨by (with_reducible repeat (first | apply Kd.R_alloc | apply Kd.R_drewN | apply Kd.R_drew)); exact Kd.R_mono (Kd.R_far (p := ⟨gb362, 3, none⟩) (Kd.R_far (p := ⟨gb362, 2, none⟩) (Kd.R_far (p := ⟨gb362, 1, none⟩) (Kd.R_far (p := ⟨gb362, 0, none⟩) (Kd.R_types HO378.out BK362.out (by decide)) (fun _ hk => hk.2) (.int .i64 t382)) (fun _ hk => hk.2) (.int .i64 t383)) (fun _ hk => hk.2) (.slice Ao78 t384.length co78)) (fun _ hk => hk.2) (.slice Ao79 t387.length co79)) (fun _ hk => ⟨hk.1.1.1.1.1, ⟨hk.1.1.1.1.2.1, ⟨hk.1.1.1.1.2.2.1, ⟨hk.1.1.1.1.2.2.2.1, ⟨hk.1.1.1.2, ⟨hk.1.1.2, ⟨hk.1.2, hk.1.1.1.1.2.2.2.2⟩⟩⟩⟩⟩⟩⟩)⟩
     have n3_ : Aside0 (Kd.R k45 45 ((((w76.setCell ⟨gb362, 0, none⟩ (.int .i64 t382)).setCell ⟨gb362, 1, none⟩ (.int .i64 t383)).setCell ⟨gb362, 2, none⟩ (.slice Ao78 t384.length co78)).setCell ⟨gb362, 3, none⟩ (.slice Ao79 t387.length co79)) w0.heap.size (fun k_ => ((P0_2_ k_ ∨ P0_3_ k_) ∨ w.heap.size ≤ k_) ∧ some k_ ≠ (.slice (some ad374) l0_2.length co52 : Value).ownBlock ∧ some k_ ≠ (.slice Ao53 l0_3.length co53 : Value).ownBlock ∧ some k_ ≠ (.slice Ao68 t376.length co68 : Value).ownBlock ∧ some k_ ≠ (.slice Ao78 t384.length co78 : Value).ownBlock ∧ some k_ ≠ (.slice Ao79 t387.length co79 : Value).ownBlock ∧ some k_ ≠ (v391 : Value).ownBlock ∧ k_ ≠ gb375) (.slice Ao72 t379.length co72) t379) := ⟨by (with_reducible repeat (first | apply Kd.R_alloc | apply Kd.R_drewN | apply Kd.R_drew)); exact Kd.R_mono (Kd.R_far (p := ⟨gb362, 3, none⟩) (Kd.R_far (p := ⟨gb362, 2, none⟩) (Kd.R_far (p := ⟨gb362, 1, none⟩) (Kd.R_far (p := ⟨gb362, 0, none⟩) (Kd.R_types HO381.out BK362.out (by decide)) (fun _ hk => hk.2) (.int .i64 t382)) (fun _ hk => hk.2) (.int .i64 t383)) (fun _ hk => hk.2) (.slice Ao78 t384.length co78)) (fun _ hk => hk.2) (.slice Ao79 t387.length co79)) (fun _ hk => ⟨hk.1.1.1.1.1, ⟨hk.1.1.1.1.2.1, ⟨hk.1.1.1.1.2.2.1, ⟨hk.1.1.1.1.2.2.2.1, ⟨hk.1.1.1.2, ⟨hk.1.1.2, ⟨hk.1.2, hk.1.1.1.1.2.2.2.2⟩⟩⟩⟩⟩⟩⟩)⟩
     have n4_ : Aside0 (Kd.R k45 45 ((((w76.setCell ⟨gb362, 0, none⟩ (.int .i64 t382)).setCell ⟨gb362, 1, none⟩ (.int .i64 t383)).setCell ⟨gb362, 2, none⟩ (.slice Ao78 t384.length co78)).setCell ⟨gb362, 3, none⟩ (.slice Ao79 t387.length co79)) w0.heap.size (fun k_ => ((P0_2_ k_ ∨ P0_3_ k_) ∨ w.heap.size ≤ k_) ∧ some k_ ≠ (.slice (some ad374) l0_2.length co52 : Value).ownBlock ∧ some k_ ≠ (.slice Ao53 l0_3.length co53 : Value).ownBlock ∧ some k_ ≠ (.slice Ao68 t376.length co68 : Value).ownBlock ∧ some k_ ≠ (.slice Ao72 t379.length co72 : Value).ownBlock ∧ some k_ ≠ (.slice Ao79 t387.length co79 : Value).ownBlock ∧ some k_ ≠ (v391 : Value).ownBlock ∧ k_ ≠ gb375) (.slice Ao78 t384.length co78) t384) := ⟨by (with_reducible repeat (first | apply Kd.R_alloc | apply Kd.R_drewN | apply Kd.R_drew)); exact Kd.R_mono (Kd.R_far (p := ⟨gb362, 3, none⟩) (Kd.R_far (p := ⟨gb362, 2, none⟩) (Kd.R_far (p := ⟨gb362, 1, none⟩) (Kd.R_far (p := ⟨gb362, 0, none⟩) (Kd.R_types HO386.out BK362.out (by decide)) (fun _ hk => hk.2) (.int .i64 t382)) (fun _ hk => hk.2) (.int .i64 t383)) (fun _ hk => hk.2) (.slice Ao78 t384.length co78)) (fun _ hk => hk.2) (.slice Ao79 t387.length co79)) (fun _ hk => ⟨hk.1.1.1.1.1.1.1, ⟨hk.1.1.1.1.1.2, ⟨hk.1.1.1.1.2, ⟨hk.1.1.1.2, ⟨hk.1.1.2, ⟨hk.1.1.1.1.1.1.2.1, ⟨hk.1.1.1.1.1.1.2.2, hk.1.2⟩⟩⟩⟩⟩⟩⟩)⟩
     have n5_ : Aside0 (Kd.R k45 45 ((((w76.setCell ⟨gb362, 0, none⟩ (.int .i64 t382)).setCell ⟨gb362, 1, none⟩ (.int .i64 t383)).setCell ⟨gb362, 2, none⟩ (.slice Ao78 t384.length co78)).setCell ⟨gb362, 3, none⟩ (.slice Ao79 t387.length co79)) w0.heap.size (fun k_ => ((P0_2_ k_ ∨ P0_3_ k_) ∨ w.heap.size ≤ k_) ∧ some k_ ≠ (.slice (some ad374) l0_2.length co52 : Value).ownBlock ∧ some k_ ≠ (.slice Ao53 l0_3.length co53 : Value).ownBlock ∧ some k_ ≠ (.slice Ao68 t376.length co68 : Value).ownBlock ∧ some k_ ≠ (.slice Ao72 t379.length co72 : Value).ownBlock ∧ some k_ ≠ (.slice Ao78 t384.length co78 : Value).ownBlock ∧ some k_ ≠ (v391 : Value).ownBlock ∧ k_ ≠ gb375) (.slice Ao79 t387.length co79) t387) := ⟨by (with_reducible repeat (first | apply Kd.R_alloc | apply Kd.R_drewN | apply Kd.R_drew)); exact Kd.R_mono (Kd.R_far (p := ⟨gb362, 3, none⟩) (Kd.R_far (p := ⟨gb362, 2, none⟩) (Kd.R_far (p := ⟨gb362, 1, none⟩) (Kd.R_far (p := ⟨gb362, 0, none⟩) (Kd.R_types HO389.out BK362.out (by decide)) (fun _ hk => hk.2) (.int .i64 t382)) (fun _ hk => hk.2) (.int .i64 t383)) (fun _ hk => hk.2) (.slice Ao78 t384.length co78)) (fun _ hk => hk.2) (.slice Ao79 t387.length co79)) (fun _ hk => ⟨hk.1.1.1.1.1.1.1, ⟨hk.1.1.1.1.1.2, ⟨hk.1.1.1.1.2, ⟨hk.1.1.1.2, ⟨hk.1.1.2, ⟨hk.1.1.1.1.1.1.2.1, ⟨hk.1.1.1.1.1.1.2.2, hk.1.2⟩⟩⟩⟩⟩⟩⟩)⟩
     have n6_ : Aside0 (Kd.R k45 45 ((((w76.setCell ⟨gb362, 0, none⟩ (.int .i64 t382)).setCell ⟨gb362, 1, none⟩ (.int .i64 t383)).setCell ⟨gb362, 2, none⟩ (.slice Ao78 t384.length co78)).setCell ⟨gb362, 3, none⟩ (.slice Ao79 t387.length co79)) w0.heap.size (fun k_ => ((P0_2_ k_ ∨ P0_3_ k_) ∨ w.heap.size ≤ k_) ∧ some k_ ≠ (.slice (some ad374) l0_2.length co52 : Value).ownBlock ∧ some k_ ≠ (.slice Ao53 l0_3.length co53 : Value).ownBlock ∧ some k_ ≠ (.slice Ao68 t376.length co68 : Value).ownBlock ∧ some k_ ≠ (.slice Ao72 t379.length co72 : Value).ownBlock ∧ some k_ ≠ (.slice Ao78 t384.length co78 : Value).ownBlock ∧ some k_ ≠ (.slice Ao79 t387.length co79 : Value).ownBlock ∧ k_ ≠ gb375) v391 t390) := ⟨by (with_reducible repeat (first | apply Kd.R_alloc | apply Kd.R_drewN | apply Kd.R_drew)); exact Kd.R_mono (Kd.R_far (p := ⟨gb362, 3, none⟩) (Kd.R_far (p := ⟨gb362, 2, none⟩) (Kd.R_far (p := ⟨gb362, 1, none⟩) (Kd.R_far (p := ⟨gb362, 0, none⟩) (Kd.R_types HO392.out BK362.out (by decide)) (fun _ hk => hk.2) (.int .i64 t382)) (fun _ hk => hk.2) (.int .i64 t383)) (fun _ hk => hk.2) (.slice Ao78 t384.length co78)) (fun _ hk => hk.2) (.slice Ao79 t387.length co79)) (fun _ hk => ⟨hk.1.1.1.1.1.1.1, ⟨hk.1.1.1.1.1.2, ⟨hk.1.1.1.1.2, ⟨hk.1.1.1.2, ⟨hk.1.1.2, ⟨hk.1.1.1.1.1.1.2.1, ⟨hk.1.1.1.1.1.1.2.2, hk.1.2⟩⟩⟩⟩⟩⟩⟩)⟩
     have n7_ : Aside0 (((((w76.setCell ⟨gb362, 0, none⟩ (.int .i64 t382)).setCell ⟨gb362, 1, none⟩ (.int .i64 t383)).setCell ⟨gb362, 2, none⟩ (.slice Ao78 t384.length co78)).setCell ⟨gb362, 3, none⟩ (.slice Ao79 t387.length co79)).heap[gb362]? = some (.cells #[.int .i64 t382, .int .i64 t383, .slice Ao78 t384.length co78, .slice Ao79 t387.length co79] 28 (0, 0))) := ⟨by (with_reducible repeat (first | refine blk_drewN ?_ _ | refine blk_drew ?_ | refine blk_alloc ?_ _)); refine blk_put (cs := #[.int .i64 t382, .int .i64 t383, .slice Ao78 t384.length co78, .slice Ao72 t379.length co72]) ?_ 3 _ rfl; (with_reducible repeat (first | refine blk_drewN ?_ _ | refine blk_drew ?_ | refine blk_alloc ?_ _)); refine blk_put (cs := #[.int .i64 t382, .int .i64 t383, .slice Ao68 t376.length co68, .slice Ao72 t379.length co72]) ?_ 2 _ rfl; (with_reducible repeat (first | refine blk_drewN ?_ _ | refine blk_drew ?_ | refine blk_alloc ?_ _)); refine blk_put (cs := #[.int .i64 t382, .int .i64 a0_1, .slice Ao68 t376.length co68, .slice Ao72 t379.length co72]) ?_ 1 _ rfl; (with_reducible repeat (first | refine blk_drewN ?_ _ | refine blk_drew ?_ | refine blk_alloc ?_ _)); refine blk_put (cs := #[.int .i64 a0_0, .int .i64 a0_1, .slice Ao68 t376.length co68, .slice Ao72 t379.length co72]) ?_ 0 _ rfl; exact bk BK362.out⟩
     have n8_ : Aside0 (((((w76.setCell ⟨gb362, 0, none⟩ (.int .i64 t382)).setCell ⟨gb362, 1, none⟩ (.int .i64 t383)).setCell ⟨gb362, 2, none⟩ (.slice Ao78 t384.length co78)).setCell ⟨gb362, 3, none⟩ (.slice Ao79 t387.length co79)).heap[gb363]? = some (.cells #[.int .i64 0, .int .i64 0, .slice none 0 0, .slice none 0 0] 28 (0, 0))) := ⟨by (with_reducible repeat (first | refine blk_drewN ?_ _ | refine blk_drew ?_ | refine blk_alloc ?_ _)); refine blk_far ?_ NB363_362.out _; (with_reducible repeat (first | refine blk_drewN ?_ _ | refine blk_drew ?_ | refine blk_alloc ?_ _)); refine blk_far ?_ NB363_362.out _; (with_reducible repeat (first | refine blk_drewN ?_ _ | refine blk_drew ?_ | refine blk_alloc ?_ _)); refine blk_far ?_ NB363_362.out _; (with_reducible repeat (first | refine blk_drewN ?_ _ | refine blk_drew ?_ | refine blk_alloc ?_ _)); refine blk_far ?_ NB363_362.out _; exact bk BK363.out⟩
     have n9_ : Aside0 (((((w76.setCell ⟨gb362, 0, none⟩ (.int .i64 t382)).setCell ⟨gb362, 1, none⟩ (.int .i64 t383)).setCell ⟨gb362, 2, none⟩ (.slice Ao78 t384.length co78)).setCell ⟨gb362, 3, none⟩ (.slice Ao79 t387.length co79)).heap[gb375]? = some (.cells #[.string ((rd_T45 l0_2 t373).f0), .string ((rd_T45 l0_2 t373).f1)] 45 (0, 0))) := ⟨by (with_reducible repeat (first | refine blk_drewN ?_ _ | refine blk_drew ?_ | refine blk_alloc ?_ _)); refine blk_far ?_ NB375_362.out _; (with_reducible repeat (first | refine blk_drewN ?_ _ | refine blk_drew ?_ | refine blk_alloc ?_ _)); refine blk_far ?_ NB375_362.out _; (with_reducible repeat (first | refine blk_drewN ?_ _ | refine blk_drew ?_ | refine blk_alloc ?_ _)); refine blk_far ?_ NB375_362.out _; (with_reducible repeat (first | refine blk_drewN ?_ _ | refine blk_drew ?_ | refine blk_alloc ?_ _)); refine blk_far ?_ NB375_362.out _; exact bk BK375.out⟩
     have n10_ : Aside0 (Kept w ((((w76.setCell ⟨gb362, 0, none⟩ (.int .i64 t382)).setCell ⟨gb362, 1, none⟩ (.int .i64 t383)).setCell ⟨gb362, 2, none⟩ (.slice Ao78 t384.length co78)).setCell ⟨gb362, 3, none⟩ (.slice Ao79 t387.length co79)) (fun k_ => P0_2_ k_ ∨ P0_3_ k_)) := ⟨by repeat (first | (with_reducible first | exact HK.out | apply Kept.alloc | apply Kept.drewN | apply Kept.drew | refine Kept.setCell ?_ (.inr GW362.out) _ | refine Kept.setCell ?_ (.inr GW363.out) _ | refine Kept.setCell ?_ (.inr GW375.out) _) | exact HK.out)⟩
     have n11_ : Aside0 (Below w0.heap.size w0 ((((w76.setCell ⟨gb362, 0, none⟩ (.int .i64 t382)).setCell ⟨gb362, 1, none⟩ (.int .i64 t383)).setCell ⟨gb362, 2, none⟩ (.slice Ao78 t384.length co78)).setCell ⟨gb362, 3, none⟩ (.slice Ao79 t387.length co79))) := ⟨bl3 HB.out GE362.out GE363.out GE375.out⟩
     (try clear HO0_2)
     (try clear HO0_3)
     (try clear HO378)
     (try clear HO381)
     (try clear HO386)
     (try clear HO389)
     (try clear HO392)
     (try clear BK362)
     (try clear BK363)
     (try clear BK375)
     (try clear HK)
     (try clear HB)
     generalize ((((w76.setCell ⟨gb362, 0, none⟩ (.int .i64 t382)).setCell ⟨gb362, 1, none⟩ (.int .i64 t383)).setCell ⟨gb362, 2, none⟩ (.slice Ao78 t384.length co78)).setCell ⟨gb362, 3, none⟩ (.slice Ao79 t387.length co79)) = w80 at n0_ n1_ n2_ n3_ n4_ n5_ n6_ n7_ n8_ n9_ n10_ n11_ ⊢
     have HO0_2 := n0_
     have HO0_3 := n1_
     have HO378 := n2_
     have HO381 := n3_
     have HO386 := n4_
     have HO389 := n5_
     have HO392 := n6_
     have BK362 := n7_
     have BK363 := n8_
     have BK375 := n9_
     have HK := n10_
     have HB := n11_
     clear n0_ n1_ n2_ n3_ n4_ n5_ n6_ n7_ n8_ n9_ n10_ n11_
     have n0_ := Aside0.mk (Kd.R_drew HO0_2.out)
     have n1_ := Aside0.mk (Kd.R_drew HO0_3.out)
     have n2_ := Aside0.mk (Kd.R_drew HO378.out)
     have n3_ := Aside0.mk (Kd.R_drew HO381.out)
     have n4_ := Aside0.mk (Kd.R_drew HO386.out)
     have n5_ := Aside0.mk (Kd.R_drew HO389.out)
     have n6_ := Aside0.mk (Kd.R_drew HO392.out)
     have n7_ := Aside0.mk (blk_drew BK362.out)
     have n8_ := Aside0.mk (blk_drew BK363.out)
     have n9_ := Aside0.mk (blk_drew BK375.out)
     have n10_ := Aside0.mk (Kept.drew HK.out)
     have n11_ := Aside0.mk (below_drew1 HB.out)
     clear HO0_2
     clear HO0_3
     clear HO378
     clear HO381
     clear HO386
     clear HO389
     clear HO392
     clear BK362
     clear BK363
     clear BK375
     clear HK
     clear HB
     have HO0_2 := n0_
     have HO0_3 := n1_
     have HO378 := n2_
     have HO381 := n3_
     have HO386 := n4_
     have HO389 := n5_
     have HO392 := n6_
     have BK362 := n7_
     have BK363 := n8_
     have BK375 := n9_
     have HK := n10_
     have HB := n11_
     clear n0_ n1_ n2_ n3_ n4_ n5_ n6_ n7_ n8_ n9_ n10_ n11_
     refine start_ (n := 6) (S := fun w' => w'.cell? ⟨gb362, 0, none⟩ = some (.int .i64 t382) ∧ w'.cell? ⟨gb362, 1, none⟩ = some (.int .i64 t383) ∧ w'.cell? ⟨gb362, 2, none⟩ = some (.slice Ao78 t384.length co78) ∧ w'.cell? ⟨gb362, 3, none⟩ = some (.slice Ao79 t387.length co79) ∧ w'.cell? ⟨gb375, 0, none⟩ = some (.string ((rd_T45 l0_2 t373).f0)) ∧ w'.cell? ⟨gb375, 1, none⟩ = some (.string ((rd_T45 l0_2 t373).f1))) (ds := []) #[false, false, false, false, false, false] (by kernel_rfl) rfl rfl ⟨(blk_cell BK362.out 0).trans rfl, (blk_cell BK362.out 1).trans rfl, (blk_cell BK362.out 2).trans rfl, (blk_cell BK362.out 3).trans rfl, (blk_cell BK375.out 0).trans rfl, (blk_cell BK375.out 1).trans rfl⟩ (fun hHeld => ?_)
     generalize w80.drew = w81 at HO0_2 HO0_3 HO378 HO381 HO386 HO389 HO392 BK362 BK363 BK375 HK HB hHeld ⊢
     refine pure_ (i := 1) (N := some 60) (v := ?_) (a' := ?_) #[false, true, false, false, false, false] rfl rfl (by kernel_rfl) (fun _ _ _ h => h) (Or.inl ⟨by rfl, ?_⟩) ?_ ?_
     rotate_left
     ·intro w'
      go_simp
      with_reducible rfl
     rotate_left
     ·simp only [Act.put, List.setIfInBounds_toArray, List.set_cons_zero, List.set_cons_succ, i64_w, i32_w]
      rfl
     refine take_ (i := 0) (N := some 59) (v := ?_) (a' := ?_) #[true, true, false, false, false, false] rfl rfl (by kernel_rfl) (fun _ _ _ h => h) (Or.inl ⟨by rfl, ?_⟩) hHeld ?_ ?_
     rotate_left
     ·rintro w' ⟨s0, s1, s2, s3, s4, s5⟩
      go_simp
      with_reducible rfl
     rotate_left
     ·simp only [Act.put, List.setIfInBounds_toArray, List.set_cons_zero, List.set_cons_succ, i64_w, i32_w]
      rfl
     refine take_ (i := 2) (N := some 61) (v := ?_) (a' := ?_) #[true, true, true, false, false, false] rfl rfl (by kernel_rfl) (fun _ _ _ h => h) (Or.inl ⟨by rfl, ?_⟩) hHeld ?_ ?_
     rotate_left
     ·rintro w' ⟨s0, s1, s2, s3, s4, s5⟩
      go_simp
      with_reducible rfl
     rotate_left
     ·simp only [Act.put, List.setIfInBounds_toArray, List.set_cons_zero, List.set_cons_succ, i64_w, i32_w]
      rfl
     refine one_ (i := 3) (N := none) #[true, true, true, true, false, false] rfl rfl (by kernel_rfl) (by decide) (fun K hK => ?_)
     have hs82 := bc0 BK363.out
     have hfs82 := blk_frozen BK363.out 0
     have hns82_0 := NB362_363.out
     have hns82_2 := NB375_363.out
     have hms82_0 := NB363_362.out
     have hms82_2 := NB363_375.out
     have hs83 := bc1 BK363.out
     have hfs83 := blk_frozen BK363.out 1
     have hns83_0 := NB362_363.out
     have hns83_2 := NB375_363.out
     have hms83_0 := NB363_362.out
     have hms83_2 := NB363_375.out
     have hs84 := bc2 BK363.out
     have hfs84 := blk_frozen BK363.out 2
     have hns84_0 := NB362_363.out
     have hns84_2 := NB375_363.out
     have hms84_0 := NB363_362.out
     have hms84_2 := NB363_375.out
     have hs85 := bc3 BK363.out
     have hfs85 := blk_frozen BK363.out 3
     have hns85_0 := NB362_363.out
     have hns85_2 := NB375_363.out
     have hms85_0 := NB363_362.out
     have hms85_2 := NB363_375.out
     refine skip_ (w1 := ?_) (by rfl) rfl ?_ ?_
     rotate_left
     ·go_simp
      rfl
     refine hK.out _ _ ⟨((cell_far (p := ⟨gb363, _, none⟩) NB362_363.out _).trans (((cell_far (p := ⟨gb363, _, none⟩) NB362_363.out _).trans (((cell_far (p := ⟨gb363, _, none⟩) NB362_363.out _).trans (((cell_far (p := ⟨gb363, _, none⟩) NB362_363.out _).trans (hHeld.1)))))))), ((cell_far (p := ⟨gb363, _, none⟩) NB362_363.out _).trans (((cell_far (p := ⟨gb363, _, none⟩) NB362_363.out _).trans (((cell_far (p := ⟨gb363, _, none⟩) NB362_363.out _).trans (((cell_far (p := ⟨gb363, _, none⟩) NB362_363.out _).trans (hHeld.2.1)))))))), ((cell_far (p := ⟨gb363, _, none⟩) NB362_363.out _).trans (((cell_far (p := ⟨gb363, _, none⟩) NB362_363.out _).trans (((cell_far (p := ⟨gb363, _, none⟩) NB362_363.out _).trans (((cell_far (p := ⟨gb363, _, none⟩) NB362_363.out _).trans (hHeld.2.2.1)))))))), ((cell_far (p := ⟨gb363, _, none⟩) NB362_363.out _).trans (((cell_far (p := ⟨gb363, _, none⟩) NB362_363.out _).trans (((cell_far (p := ⟨gb363, _, none⟩) NB362_363.out _).trans (((cell_far (p := ⟨gb363, _, none⟩) NB362_363.out _).trans (hHeld.2.2.2.1)))))))), ((cell_far (p := ⟨gb363, _, none⟩) NB375_363.out _).trans (((cell_far (p := ⟨gb363, _, none⟩) NB375_363.out _).trans (((cell_far (p := ⟨gb363, _, none⟩) NB375_363.out _).trans (((cell_far (p := ⟨gb363, _, none⟩) NB375_363.out _).trans (hHeld.2.2.2.2.1)))))))), ((cell_far (p := ⟨gb363, _, none⟩) NB375_363.out _).trans (((cell_far (p := ⟨gb363, _, none⟩) NB375_363.out _).trans (((cell_far (p := ⟨gb363, _, none⟩) NB375_363.out _).trans (((cell_far (p := ⟨gb363, _, none⟩) NB375_363.out _).trans (hHeld.2.2.2.2.2))))))))⟩ (fun hHeld => ?_)
     clear hK K
     refine pure_ (i := 4) (N := some 5) (v := ?_) (a' := ?_) #[true, true, true, true, true, false] rfl rfl (by kernel_rfl) (fun _ _ _ h => h) (Or.inl ⟨by rfl, ?_⟩) ?_ ?_
     rotate_left
     ·intro w'
      go_simp
      with_reducible rfl
     rotate_left
     ·simp only [Act.put, List.setIfInBounds_toArray, List.set_cons_zero, List.set_cons_succ, i64_w, i32_w]
      rfl
     refine pure_ (i := 5) (N := some 6) (v := ?_) (a' := ?_) #[true, true, true, true, true, true] rfl rfl (by kernel_rfl) (fun _ _ _ h => h) (Or.inl ⟨by rfl, ?_⟩) ?_ ?_
     rotate_left
     ·intro w'
      go_simp
      with_reducible rfl
     rotate_left
     ·simp only [Act.put, List.setIfInBounds_toArray, List.set_cons_zero, List.set_cons_succ, i64_w, i32_w]
      rfl
     refine done_ (by kernel_rfl) ?_
     try go_wp2
     refine bodyPost_ret (results_ctt rfl _ _ gb363 28 #[.int .i64 t382, .int .i64 t383, .slice Ao78 t384.length co78, .slice Ao79 t387.length co79] (0, 0) _ rfl (by (with_reducible repeat (first | refine blk_drewN ?_ _ | refine blk_drew ?_ | refine blk_alloc ?_ _)); refine blk_put (cs := #[.int .i64 t382, .int .i64 t383, .slice Ao78 t384.length co78, .slice none 0 0]) ?_ 3 _ rfl; (with_reducible repeat (first | refine blk_drewN ?_ _ | refine blk_drew ?_ | refine blk_alloc ?_ _)); refine blk_put (cs := #[.int .i64 t382, .int .i64 t383, .slice none 0 0, .slice none 0 0]) ?_ 2 _ rfl; (with_reducible repeat (first | refine blk_drewN ?_ _ | refine blk_drew ?_ | refine blk_alloc ?_ _)); refine blk_put (cs := #[.int .i64 t382, .int .i64 0, .slice none 0 0, .slice none 0 0]) ?_ 1 _ rfl; (with_reducible repeat (first | refine blk_drewN ?_ _ | refine blk_drew ?_ | refine blk_alloc ?_ _)); refine blk_put (cs := #[.int .i64 0, .int .i64 0, .slice none 0 0, .slice none 0 0]) ?_ 0 _ rfl; exact bk BK363.out) Try.underlying28 rfl (by kernel_rfl)) rfl ?_
     exact ⟨_, _, by first | rfl | (simp [errW_none, errW_some] <;> rfl) | (simp [*, errW_none, errW_some] <;> rfl), by (with_reducible repeat (first | apply Kd.R_alloc | apply Kd.R_drewN | apply Kd.R_drew)); exact Kd.R_mono (Kd.R_far (p := ⟨gb363, 3, none⟩) (Kd.R_far (p := ⟨gb363, 2, none⟩) (Kd.R_far (p := ⟨gb363, 1, none⟩) (Kd.R_far (p := ⟨gb363, 0, none⟩) (Kd.R_types HO386.out BK363.out (by decide)) (fun _ hk => hk.2) (.int .i64 t382)) (fun _ hk => hk.2) (.int .i64 t383)) (fun _ hk => hk.2) (.slice Ao78 t384.length co78)) (fun _ hk => hk.2) (.slice Ao79 t387.length co79)) (fun _ hk => ⟨hk.1.1, hk.1.2.2.2.2.2.1⟩), by (with_reducible repeat (first | apply Kd.R_alloc | apply Kd.R_drewN | apply Kd.R_drew)); exact Kd.R_mono (Kd.R_far (p := ⟨gb363, 3, none⟩) (Kd.R_far (p := ⟨gb363, 2, none⟩) (Kd.R_far (p := ⟨gb363, 1, none⟩) (Kd.R_far (p := ⟨gb363, 0, none⟩) (Kd.R_types HO389.out BK363.out (by decide)) (fun _ hk => hk.2) (.int .i64 t382)) (fun _ hk => hk.2) (.int .i64 t383)) (fun _ hk => hk.2) (.slice Ao78 t384.length co78)) (fun _ hk => hk.2) (.slice Ao79 t387.length co79)) (fun _ hk => ⟨hk.1.1, hk.1.2.2.2.2.2.1⟩), bl3 HB.out GE362.out GE363.out GE375.out, by repeat (first | (with_reducible first | exact HK.out | apply Kept.alloc | apply Kept.drewN | apply Kept.drew | refine Kept.setCell ?_ (.inr GW362.out) _ | refine Kept.setCell ?_ (.inr GW363.out) _ | refine Kept.setCell ?_ (.inr GW375.out) _) | exact HK.out)⟩
    ·rw [if_neg c48] at H
     exact absurd H (by simp)
   ·rw [if_neg c47] at H
    exact absurd H (by simp)

end Go.Proofs.Ytfopmaiednikhaa.PFnExactPlaySegmented
