-- written by a program of this session (wip/tool)
import Derived.Test.YtfopmaiednikhaaPFnExactGetEntryx0
import Derived.Test.YtfopmaiednikhaaPFnExactGetEntryx3
import Derived.Test.YtfopmaiednikhaaPFnExactGetEntryx5
import Derived.Test.YtfopmaiednikhaaPFnExactGetEntryx6
import Derived.Test.YtfopmaiednikhaaVOwn0
import Derived.Test.YtfopmaiednikhaaVOwnOpen
import Derived.WalkKit
import Derived.BigCall
import Derived.Lib.SliceRun
import Derived.Deep.RegionLaw
import Derived.Maps.OwnSet
import Derived.Maps.OwnOps
import Derived.Maps.Views
import Derived.Test.YtfopmaiednikhaaVWZeros
import Derived.Test.YtfopmaiednikhaaVWArr
import Derived.Test.YtfopmaiednikhaaVOwnShort
namespace Go.Proofs.Ytfopmaiednikhaa.PFnExactGetEntry
open Go.RowKit Go.Proofs.YtfopmaiednikhaaW.PrintWords Go.Proofs.YtfopmaiednikhaaW.PrintLast Go.Proofs.YtfopmaiednikhaaW.PrintMore Go.Shelf Go.Proofs.YtfopmaiednikhaaOwn
attribute [local go_sem] max2_int min2_int max_two min_two max_three min_three max_four min_four   -- for this text's walks alone
set_option linter.unusedVariables false
set_option linter.unusedSimpArgs false

/-! ### spec_l12Get: function 57 -/
def spec_l12Get.f (k : Nat) (a0_0 : Int) (a0_1 : Int) (l0_2 : List (S45)) (l0_3 : List (S45)) (a1 : ByteArray) : Option (Int × Int × (List (S45)) × (List (S45)) × ByteArray × Bool) := (spec_l12At.f k l0_3 a1).bind fun t274 => (if t274 ≥ 0 then (if 0 ≤ t274 then (if t274 < (l0_3.length : Int) then ((spec_l12Without.f l0_3 t274).bind fun t277 => ((spec_l12Ahead.f t277 ((rd_T45 l0_3 t274).f0) ((rd_T45 l0_3 t274).f1)).bind fun t280 => (some (a0_0, a0_1, l0_2, t280, (rd_T45 l0_3 t274).f1, true)))) else (none)) else (none)) else ((spec_l12At.f k l0_2 a1).bind fun t283 => (if t283 < 0 then (some (a0_0, a0_1, l0_2, l0_3, (⟨#[]⟩ : ByteArray), false)) else (if 0 ≤ t283 then (if t283 < (l0_2.length : Int) then ((spec_l12Without.f l0_2 t283).bind fun t286 => ((spec_l12Ahead.f l0_3 ((rd_T45 l0_2 t283).f0) ((rd_T45 l0_2 t283).f1)).bind fun t289 => ((spec_l12Fit.f k a0_0 a0_1 t286 t289).bind fun bt292 => (some (bt292.1, bt292.2.1, bt292.2.2.1, bt292.2.2.2.1, (rd_T45 l0_2 t283).f1, true))))) else (none)) else (none)))))
theorem spec_l12Get.mono : ∀ a0 a1 a2 a3 a4 k, LeO (spec_l12Get.f k a0 a1 a2 a3 a4) (spec_l12Get.f (k + 1) a0 a1 a2 a3 a4) := by
 intro a0 a1 a2 a3 a4 k
 unfold spec_l12Get.f
 repeat' first
   | (with_reducible exact spec_l12At.mono _ _ _)
   | (with_reducible exact spec_l12Fit.mono _ _ _ _ _)
   | (with_reducible exact LeO.refl _)
   | (with_reducible exact LeO.none _)
   | (with_reducible refine LeO.ite ?_ ?_)
   | (with_reducible refine LeO.bind ?_ (fun _ => ?_))
   | exact spec_l12At.mono _ _ _
   | exact spec_l12Fit.mono _ _ _ _ _
   | exact LeO.none _
   | refine LeO.ite ?_ ?_
   | refine LeO.bind ?_ (fun _ => ?_)
def spec_l12Get.T4 : Bool × List (List Nat × List Nat) := (true, [([], []), ([0], [0]), ([], []), ([1, 2], [1, 2]), ([], []), ([3, 4, 3], [3, 4]), ([0, 1, 2, 3, 4, 5], []), ([6, 5, 5, 0, 1, 2, 3, 4, 5], [5, 6])])
def spec_l12Get.B4 : List Nat := [0, 1, 0, 7, 0, 31, 63, 127]
theorem spec_l12Get.tab4 : rtab .any (opsOf Try.f57 4) = spec_l12Get.T4 := by kernel_rfl
theorem spec_l12Get.bits4 : waitsOk spec_l12Get.T4.2 spec_l12Get.B4 = true := by kernel_rfl
set_option maxHeartbeats 8000000 in
set_option maxRecDepth 100000 in
theorem spec_l12Get.calls (k : Nat) (a0_0 : Int) (a0_1 : Int) (P0_2_ : Nat → Prop) (u9000_ : Value) (l0_2 : List (S45)) (P0_3_ : Nat → Prop) (u9001_ : Value) (l0_3 : List (S45)) (a1 : ByteArray) (r1 : Int) (r2 : Int) (r3 : List (S45)) (r4 : List (S45)) (r5 : ByteArray) (r6 : Bool) (w0 w : World) (hB : Below w0.heap.size w0 w) (ho0_2 : Kd.R k45 45 w w0.heap.size P0_2_ u9000_ l0_2) (hp0_2_0_3 : ∀ k_, P0_2_ k_ → ¬ P0_3_ k_) (ho0_3 : Kd.R k45 45 w w0.heap.size P0_3_ u9001_ l0_3) (hp0_3_0_2 : ∀ k_, P0_3_ k_ → ¬ P0_2_ k_) (h : spec_l12Get.f k a0_0 a0_1 l0_2 l0_3 a1 = some (r1, r2, r3, r4, r5, r6)) :
  Calls Try.prog 57 #[.agg #[.int .i64 a0_0, .int .i64 a0_1, u9000_, u9001_], .string a1] w fun e w' => ∃ v2_ v3_ : Value, e = .returned (.tuple #[.agg #[.int .i64 r1, .int .i64 r2, v2_, v3_], .string r5, .bool r6]) ∧ Kd.R k45 45 w' w0.heap.size (fun k_ => ((P0_2_ k_ ∨ P0_3_ k_) ∨ w.heap.size ≤ k_) ∧ some k_ ≠ (v3_ : Value).ownBlock) v2_ r3 ∧ Kd.R k45 45 w' w0.heap.size (fun k_ => ((P0_2_ k_ ∨ P0_3_ k_) ∨ w.heap.size ≤ k_) ∧ some k_ ≠ (v2_ : Value).ownBlock) v3_ r4 ∧ Below w0.heap.size w0 w' ∧ Kept w w' (fun k_ => P0_2_ k_ ∨ P0_3_ k_) := by
 have hu28 := Try.underlying28
 have hu45 := Try.underlying45
 have HO0_2 := Aside0.mk (show Kd.R k45 45 w w0.heap.size (fun k_ => ((P0_2_ k_ ∨ P0_3_ k_) ∨ w.heap.size ≤ k_) ∧ some k_ ≠ (u9001_ : Value).ownBlock) u9000_ l0_2 from Kd.R_mono ho0_2 (fun k_ hk => ⟨(.inl (.inl hk)), fun e_ => hp0_2_0_3 k_ hk (ho0_3.1 k_ e_.symm)⟩))
 have HO0_3 := Aside0.mk (show Kd.R k45 45 w w0.heap.size (fun k_ => ((P0_2_ k_ ∨ P0_3_ k_) ∨ w.heap.size ≤ k_) ∧ some k_ ≠ (u9000_ : Value).ownBlock) u9001_ l0_3 from Kd.R_mono ho0_3 (fun k_ hk => ⟨(.inl (.inr hk)), fun e_ => hp0_3_0_2 k_ hk (ho0_2.1 k_ e_.symm)⟩))
 have HK := Aside0.mk (Kept.refl w (fun k_ => P0_2_ k_ ∨ P0_3_ k_))
 have HW0 := Aside0.mk hB.size
 have HB := Aside0.mk hB
 clear hB
 have H : ((spec_l12At.f k l0_3 a1).bind fun t274 => (if t274 ≥ 0 then (if 0 ≤ t274 then (if t274 < (l0_3.length : Int) then ((spec_l12Without.f l0_3 t274).bind fun t277 => ((spec_l12Ahead.f t277 ((rd_T45 l0_3 t274).f0) ((rd_T45 l0_3 t274).f1)).bind fun t280 => (some (a0_0, a0_1, l0_2, t280, (rd_T45 l0_3 t274).f1, true)))) else (none)) else (none)) else ((spec_l12At.f k l0_2 a1).bind fun t283 => (if t283 < 0 then (some (a0_0, a0_1, l0_2, l0_3, (⟨#[]⟩ : ByteArray), false)) else (if 0 ≤ t283 then (if t283 < (l0_2.length : Int) then ((spec_l12Without.f l0_2 t283).bind fun t286 => ((spec_l12Ahead.f l0_3 ((rd_T45 l0_2 t283).f0) ((rd_T45 l0_2 t283).f1)).bind fun t289 => ((spec_l12Fit.f k a0_0 a0_1 t286 t289).bind fun bt292 => (some (bt292.1, bt292.2.1, bt292.2.2.1, bt292.2.2.2.1, (rd_T45 l0_2 t283).f1, true))))) else (none)) else (none)))))) = some (r1, r2, r3, r4, r5, r6) := h
 clear h
 replace H := Option.bind_eq_some_iff.mp H
 obtain ⟨t274, A30, H⟩ := H
 try dsimp only at H
 have A3 := Aside0.mk A30
 clear A30
 by_cases c4 : t274 ≥ 0
 ·rw [if_pos c4] at H
  have c4b0 : decide (0 ≤ t274) = true := decide_eq_true c4
  clear c4
  by_cases c5 : 0 ≤ t274
  ·rw [if_pos c5] at H
   have c5b0 : decide (0 ≤ t274) = true := decide_eq_true c5
   clear c5
   by_cases c6 : t274 < (l0_3.length : Int)
   ·rw [if_pos c6] at H
    have c6b0 : decide (t274 < (l0_3.length : Int)) = true := decide_eq_true c6
    clear c6
    replace H := Option.bind_eq_some_iff.mp H
    obtain ⟨t277, A70, H⟩ := H
    try dsimp only at H
    have A7 := Aside0.mk A70
    clear A70
    replace H := Option.bind_eq_some_iff.mp H
    obtain ⟨t280, A80, H⟩ := H
    try dsimp only at H
    have A8 := Aside0.mk A80
    clear A80
    simp only [Option.some.injEq, Prod.mk.injEq] at H
    obtain ⟨rfl, rfl, rfl, rfl, rfl, rfl⟩ := H
    obtain ⟨Ao9, co9, eo9⟩ := Kd.R_slice HO0_2.out
    subst eo9
    obtain ⟨Ao10, co10, eo10⟩ := Kd.R_slice HO0_3.out
    subst eo10
    go_enter Try.func57, Try.ntmps57
    try go_wp2_with (first | ((with_reducible refine gate_dst (N := 2) rfl ?_); refine box_event ?hg (N := 2) ?hd (cs := #[.int .i64 a0_0, .int .i64 a0_1, .slice Ao9 l0_2.length co9, .slice Ao10 l0_3.length co10]) (t := 28) ?hr ?_; (case hd => rfl); (case hg => rfl); (case hr => first | (go_simp; done) | (go_simp; rfl)); intro gb272 hg w11 hbox hb; have n0_ := Aside0.mk (Kd.R_below (kr HO0_2.out) hb); have n1_ := Aside0.mk (Kd.R_below (kr HO0_3.out) hb); have n2_ := Aside0.mk (Kept.below (S := (fun k_ => P0_2_ k_ ∨ P0_3_ k_)) (by repeat (first | (with_reducible first | exact HK.out | apply Kept.alloc | apply Kept.drewN | apply Kept.drew) | exact HK.out)) hb); have n3_ := Aside0.mk (below_step (bl HB.out) hb); have n4_ := Aside0.mk (hbox); have n5_ := Aside0.mk ((by rw [hg]; exact (by first | exact HK.out.1 | exact (show Kept w _ (fun k_ => P0_2_ k_ ∨ P0_3_ k_) from by repeat (first | (with_reducible first | exact HK.out | apply Kept.alloc | apply Kept.drewN | apply Kept.drew) | exact HK.out)).1) : w.heap.size ≤ gb272)); have n6_ := Aside0.mk ((by rw [hg]; exact (below_size (bl HB.out)) : w0.heap.size ≤ gb272)); clear HO0_2; clear HO0_3; clear HK; clear HB; have HO0_2 := n0_; have HO0_3 := n1_; have HK := n2_; have HB := n3_; have BK272 := n4_; have GW272 := n5_; have GE272 := n6_; clear n0_ n1_ n2_ n3_ n4_ n5_ n6_; clear hb hbox hg) | ((with_reducible refine gate_dst (N := 4) rfl ?_); refine box_event ?hg (N := 4) ?hd (cs := #[.int .i64 0, .int .i64 0, .slice none 0 0, .slice none 0 0]) (t := 28) ?hr ?_; (case hd => rfl); (case hg => rfl); (case hr => first | (go_simp; done) | (go_simp; rfl)); intro gb273 hg w12 hbox hb; have n0_ := Aside0.mk (Kd.R_below (kr HO0_2.out) hb); have n1_ := Aside0.mk (Kd.R_below (kr HO0_3.out) hb); have n2_ := Aside0.mk (blk_below (g := gb272) (o := .cells #[.int .i64 a0_0, .int .i64 a0_1, .slice Ao9 l0_2.length co9, .slice Ao10 l0_3.length co10] 28 (0, 0)) (bk BK272.out) hb); have n3_ := Aside0.mk (Kept.below (S := (fun k_ => P0_2_ k_ ∨ P0_3_ k_)) (by repeat (first | (with_reducible first | exact HK.out | apply Kept.alloc | apply Kept.drewN | apply Kept.drew | refine Kept.setCell ?_ (.inr GW272.out) _) | exact HK.out)) hb); have n4_ := Aside0.mk (below_step (bl1 HB.out GE272.out) hb); have n5_ := Aside0.mk (hbox); have n6_ := Aside0.mk ((by rw [hg]; exact (by first | exact HK.out.1 | exact (show Kept w _ (fun k_ => P0_2_ k_ ∨ P0_3_ k_) from by repeat (first | (with_reducible first | exact HK.out | apply Kept.alloc | apply Kept.drewN | apply Kept.drew | refine Kept.setCell ?_ (.inr GW272.out) _) | exact HK.out)).1) : w.heap.size ≤ gb273)); have n7_ := Aside0.mk ((by rw [hg]; exact (below_size (bl1 HB.out GE272.out)) : w0.heap.size ≤ gb273)); have n8_ := Aside0.mk ((by rw [hg]; exact Nat.ne_of_lt (blk_lt (g := gb272) (o := .cells #[.int .i64 a0_0, .int .i64 a0_1, .slice Ao9 l0_2.length co9, .slice Ao10 l0_3.length co10] 28 (0, 0)) (bk BK272.out)) : gb272 ≠ gb273)); have n9_ := Aside0.mk ((by rw [hg]; exact Nat.ne_of_gt (blk_lt (g := gb272) (o := .cells #[.int .i64 a0_0, .int .i64 a0_1, .slice Ao9 l0_2.length co9, .slice Ao10 l0_3.length co10] 28 (0, 0)) (bk BK272.out)) : gb273 ≠ gb272)); clear HO0_2; clear HO0_3; clear BK272; clear HK; clear HB; have HO0_2 := n0_; have HO0_3 := n1_; have BK272 := n2_; have HK := n3_; have HB := n4_; have BK273 := n5_; have GW273 := n6_; have GE273 := n7_; have NB272_273 := n8_; have NB273_272 := n9_; clear n0_ n1_ n2_ n3_ n4_ n5_ n6_ n7_ n8_ n9_; clear hb hbox hg; have hnb13 := NB272_273.out; have hnc13 := NB273_272.out; have hcz14_0 : w12.cell? ⟨gb272, 0, none⟩ = some (.int .i64 a0_0) := (blk_cell BK272.out 0).trans rfl; have hcz14_1 : w12.cell? ⟨gb272, 1, none⟩ = some (.int .i64 a0_1) := (blk_cell BK272.out 1).trans rfl; have hcz14_2 : w12.cell? ⟨gb272, 2, none⟩ = some (.slice Ao9 l0_2.length co9) := (blk_cell BK272.out 2).trans rfl; have hcz14_3 : w12.cell? ⟨gb272, 3, none⟩ = some (.slice Ao10 l0_3.length co10) := (blk_cell BK272.out 3).trans rfl; have hfz14_0 := blk_frozen BK272.out 0; have hfz14_1 := blk_frozen BK272.out 1; have hfz14_2 := blk_frozen BK272.out 2; have hfz14_3 := blk_frozen BK272.out 3) | ((with_reducible refine gate_callee (f := 43) rfl ?_); refine goesL_ (some 14) rfl rfl Try.func43 (by kernel_rfl) rfl #[.slice Ao10 l0_3.length co10, .string a1] rfl (by (try simp only [List.map_toArray, List.map_cons, List.map_nil]); first | done | rfl | (simp only [List.length_drop, List.length_take]; rfl)) ?_; (with_reducible refine (spec_l12At.calls k _ _ l0_3 a1 t274 _ ?side1 ?side2 A3.out).mono ?_); (case side1 => exact kc (Kd.R_reads' HO0_3.out).2.2); (case side2 => exact (Kd.R_reads' HO0_3.out).2.1); rintro e w15 ⟨rfl, hb⟩; refine ⟨_, rfl, ?_⟩; have n0_ := Aside0.mk (Kd.R_below (kr HO0_2.out) hb); have n1_ := Aside0.mk (Kd.R_below (kr HO0_3.out) hb); have n2_ := Aside0.mk (blk_below (g := gb272) (o := .cells #[.int .i64 a0_0, .int .i64 a0_1, .slice Ao9 l0_2.length co9, .slice Ao10 l0_3.length co10] 28 (0, 0)) (bk BK272.out) hb); have n3_ := Aside0.mk (blk_below (g := gb273) (o := .cells #[.int .i64 0, .int .i64 0, .slice none 0 0, .slice none 0 0] 28 (0, 0)) (bk BK273.out) hb); have n4_ := Aside0.mk (Kept.below (S := (fun k_ => P0_2_ k_ ∨ P0_3_ k_)) (by repeat (first | (with_reducible first | exact HK.out | apply Kept.alloc | apply Kept.drewN | apply Kept.drew | refine Kept.setCell ?_ (.inr GW272.out) _ | refine Kept.setCell ?_ (.inr GW273.out) _) | exact HK.out)) hb); have n5_ := Aside0.mk (below_step (bl2 HB.out GE272.out GE273.out) hb); clear HO0_2; clear HO0_3; clear BK272; clear BK273; clear HK; clear HB; have HO0_2 := n0_; have HO0_3 := n1_; have BK272 := n2_; have BK273 := n3_; have HK := n4_; have HB := n5_; clear n0_ n1_ n2_ n3_ n4_ n5_; (try clear hb); (try clear hb2); (try clear hk); (try clear hi); have hcz16_0 : w15.cell? ⟨gb272, 0, none⟩ = some (.int .i64 a0_0) := (blk_cell BK272.out 0).trans rfl; have hcz16_1 : w15.cell? ⟨gb272, 1, none⟩ = some (.int .i64 a0_1) := (blk_cell BK272.out 1).trans rfl; have hcz16_2 : w15.cell? ⟨gb272, 2, none⟩ = some (.slice Ao9 l0_2.length co9) := (blk_cell BK272.out 2).trans rfl; have hcz16_3 : w15.cell? ⟨gb272, 3, none⟩ = some (.slice Ao10 l0_3.length co10) := (blk_cell BK272.out 3).trans rfl; have hfz16_0 := blk_frozen BK272.out 0; have hfz16_1 := blk_frozen BK272.out 1; have hfz16_2 := blk_frozen BK272.out 2; have hfz16_3 := blk_frozen BK272.out 3; have p275 : 0 ≤ (t274 : Int) := of_decide_eq_true (by first | (with_reducible assumption) | assumption); have q275 : t274 < (l0_3.length : Int) := of_decide_eq_true (by first | (with_reducible assumption) | assumption); obtain ⟨ad275, e275, hx275_0, hx275_1⟩ := at_T45 (Kd.R_reads' HO0_3.out).2.2 t274 p275 q275; cases e275; replace p275 := eq_true p275; replace q275 := eq_true q275) | ((with_reducible refine gate_dst (N := 8) rfl ?_); refine box_event ?hg (N := 8) ?hd (cs := #[.string (⟨#[]⟩ : ByteArray), .string (⟨#[]⟩ : ByteArray)]) (t := 45) ?hr ?_; (case hd => rfl); (case hg => rfl); (case hr => first | (go_simp; done) | (go_simp; rfl)); intro gb276 hg w17 hbox hb; have n0_ := Aside0.mk (Kd.R_below (Kd.R_elderB (kr HO0_2.out) gb276 (Nat.le_of_eq hg.symm)) hb); have n1_ := Aside0.mk (Kd.R_below (Kd.R_elderB (kr HO0_3.out) gb276 (Nat.le_of_eq hg.symm)) hb); have n2_ := Aside0.mk (blk_below (g := gb272) (o := .cells #[.int .i64 a0_0, .int .i64 a0_1, .slice Ao9 l0_2.length co9, .slice (some ad275) l0_3.length co10] 28 (0, 0)) (bk BK272.out) hb); have n3_ := Aside0.mk (blk_below (g := gb273) (o := .cells #[.int .i64 0, .int .i64 0, .slice none 0 0, .slice none 0 0] 28 (0, 0)) (bk BK273.out) hb); have n4_ := Aside0.mk (Kept.below (S := (fun k_ => P0_2_ k_ ∨ P0_3_ k_)) (by repeat (first | (with_reducible first | exact HK.out | apply Kept.alloc | apply Kept.drewN | apply Kept.drew | refine Kept.setCell ?_ (.inr GW272.out) _ | refine Kept.setCell ?_ (.inr GW273.out) _) | exact HK.out)) hb); have n5_ := Aside0.mk (below_step (bl2 HB.out GE272.out GE273.out) hb); have n6_ := Aside0.mk (hbox); have n7_ := Aside0.mk ((by rw [hg]; exact (by first | exact HK.out.1 | exact (show Kept w _ (fun k_ => P0_2_ k_ ∨ P0_3_ k_) from by repeat (first | (with_reducible first | exact HK.out | apply Kept.alloc | apply Kept.drewN | apply Kept.drew | refine Kept.setCell ?_ (.inr GW272.out) _ | refine Kept.setCell ?_ (.inr GW273.out) _) | exact HK.out)).1) : w.heap.size ≤ gb276)); have n8_ := Aside0.mk ((by rw [hg]; exact (below_size (bl2 HB.out GE272.out GE273.out)) : w0.heap.size ≤ gb276)); have n9_ := Aside0.mk ((by rw [hg]; exact Nat.ne_of_lt (blk_lt (g := gb272) (o := .cells #[.int .i64 a0_0, .int .i64 a0_1, .slice Ao9 l0_2.length co9, .slice (some ad275) l0_3.length co10] 28 (0, 0)) (bk BK272.out)) : gb272 ≠ gb276)); have n10_ := Aside0.mk ((by rw [hg]; exact Nat.ne_of_gt (blk_lt (g := gb272) (o := .cells #[.int .i64 a0_0, .int .i64 a0_1, .slice Ao9 l0_2.length co9, .slice (some ad275) l0_3.length co10] 28 (0, 0)) (bk BK272.out)) : gb276 ≠ gb272)); have n11_ := Aside0.mk ((by rw [hg]; exact Nat.ne_of_lt (blk_lt (g := gb273) (o := .cells #[.int .i64 0, .int .i64 0, .slice none 0 0, .slice none 0 0] 28 (0, 0)) (bk BK273.out)) : gb273 ≠ gb276)); have n12_ := Aside0.mk ((by rw [hg]; exact Nat.ne_of_gt (blk_lt (g := gb273) (o := .cells #[.int .i64 0, .int .i64 0, .slice none 0 0, .slice none 0 0] 28 (0, 0)) (bk BK273.out)) : gb276 ≠ gb273)); clear HO0_2; clear HO0_3; clear BK272; clear BK273; clear HK; clear HB; have HO0_2 := n0_; have HO0_3 := n1_; have BK272 := n2_; have BK273 := n3_; have HK := n4_; have HB := n5_; have BK276 := n6_; have GW276 := n7_; have GE276 := n8_; have NB272_276 := n9_; have NB276_272 := n10_; have NB273_276 := n11_; have NB276_273 := n12_; clear n0_ n1_ n2_ n3_ n4_ n5_ n6_ n7_ n8_ n9_ n10_ n11_ n12_; clear hb hbox hg; have hnb18 := NB276_272.out; have hnc18 := NB272_276.out; have hnb19 := NB276_273.out; have hnc19 := NB273_276.out; have hcz20_0 : w17.cell? ⟨gb276, 0, none⟩ = some (.string (⟨#[]⟩ : ByteArray)) := (blk_cell BK276.out 0).trans rfl; have hcz20_1 : w17.cell? ⟨gb276, 1, none⟩ = some (.string (⟨#[]⟩ : ByteArray)) := (blk_cell BK276.out 1).trans rfl; have hfz20_0 := blk_frozen BK276.out 0; have hfz20_1 := blk_frozen BK276.out 1))
    have n0_ : Aside0 (Kd.R k45 45 ((w17.setCell ⟨gb276, 0, none⟩ (.string ((rd_T45 l0_3 t274).f0))).setCell ⟨gb276, 1, none⟩ (.string ((rd_T45 l0_3 t274).f1))) w0.heap.size (fun k_ => ((P0_2_ k_ ∨ P0_3_ k_) ∨ w.heap.size ≤ k_) ∧ some k_ ≠ (.slice (some ad275) l0_3.length co10 : Value).ownBlock ∧ k_ ≠ gb276) (.slice Ao9 l0_2.length co9) l0_2) := ⟨by (with_reducible repeat (first | apply Kd.R_alloc | apply Kd.R_drewN | apply Kd.R_drew)); exact Kd.R_mono (Kd.R_far (p := ⟨gb276, 1, none⟩) (Kd.R_far (p := ⟨gb276, 0, none⟩) (Kd.R_mono HO0_2.out (fun k_ hk => (⟨hk, hk.2⟩ : _ ∧ k_ ≠ gb276))) (fun _ hk => hk.2) (.string ((rd_T45 l0_3 t274).f0))) (fun _ hk => hk.2) (.string ((rd_T45 l0_3 t274).f1))) (fun _ hk => ⟨hk.1.1.1, ⟨hk.1.1.2, hk.1.2⟩⟩)⟩
    have n1_ : Aside0 (Kd.R k45 45 ((w17.setCell ⟨gb276, 0, none⟩ (.string ((rd_T45 l0_3 t274).f0))).setCell ⟨gb276, 1, none⟩ (.string ((rd_T45 l0_3 t274).f1))) w0.heap.size (fun k_ => ((P0_2_ k_ ∨ P0_3_ k_) ∨ w.heap.size ≤ k_) ∧ some k_ ≠ (.slice Ao9 l0_2.length co9 : Value).ownBlock ∧ k_ ≠ gb276) (.slice (some ad275) l0_3.length co10) l0_3) := ⟨by (with_reducible repeat (first | apply Kd.R_alloc | apply Kd.R_drewN | apply Kd.R_drew)); exact Kd.R_mono (Kd.R_far (p := ⟨gb276, 1, none⟩) (Kd.R_far (p := ⟨gb276, 0, none⟩) (Kd.R_mono HO0_3.out (fun k_ hk => (⟨hk, hk.2⟩ : _ ∧ k_ ≠ gb276))) (fun _ hk => hk.2) (.string ((rd_T45 l0_3 t274).f0))) (fun _ hk => hk.2) (.string ((rd_T45 l0_3 t274).f1))) (fun _ hk => ⟨hk.1.1.1, ⟨hk.1.1.2, hk.1.2⟩⟩)⟩
    have n2_ : Aside0 (((w17.setCell ⟨gb276, 0, none⟩ (.string ((rd_T45 l0_3 t274).f0))).setCell ⟨gb276, 1, none⟩ (.string ((rd_T45 l0_3 t274).f1))).heap[gb272]? = some (.cells #[.int .i64 a0_0, .int .i64 a0_1, .slice Ao9 l0_2.length co9, .slice (some ad275) l0_3.length co10] 28 (0, 0))) := ⟨by (with_reducible repeat (first | refine blk_drewN ?_ _ | refine blk_drew ?_ | refine blk_alloc ?_ _)); refine blk_far ?_ NB272_276.out _; (with_reducible repeat (first | refine blk_drewN ?_ _ | refine blk_drew ?_ | refine blk_alloc ?_ _)); refine blk_far ?_ NB272_276.out _; exact bk BK272.out⟩
    have n3_ : Aside0 (((w17.setCell ⟨gb276, 0, none⟩ (.string ((rd_T45 l0_3 t274).f0))).setCell ⟨gb276, 1, none⟩ (.string ((rd_T45 l0_3 t274).f1))).heap[gb273]? = some (.cells #[.int .i64 0, .int .i64 0, .slice none 0 0, .slice none 0 0] 28 (0, 0))) := ⟨by (with_reducible repeat (first | refine blk_drewN ?_ _ | refine blk_drew ?_ | refine blk_alloc ?_ _)); refine blk_far ?_ NB273_276.out _; (with_reducible repeat (first | refine blk_drewN ?_ _ | refine blk_drew ?_ | refine blk_alloc ?_ _)); refine blk_far ?_ NB273_276.out _; exact bk BK273.out⟩
    have n4_ : Aside0 (((w17.setCell ⟨gb276, 0, none⟩ (.string ((rd_T45 l0_3 t274).f0))).setCell ⟨gb276, 1, none⟩ (.string ((rd_T45 l0_3 t274).f1))).heap[gb276]? = some (.cells #[.string ((rd_T45 l0_3 t274).f0), .string ((rd_T45 l0_3 t274).f1)] 45 (0, 0))) := ⟨by (with_reducible repeat (first | refine blk_drewN ?_ _ | refine blk_drew ?_ | refine blk_alloc ?_ _)); refine blk_put (cs := #[.string ((rd_T45 l0_3 t274).f0), .string (⟨#[]⟩ : ByteArray)]) ?_ 1 _ rfl; (with_reducible repeat (first | refine blk_drewN ?_ _ | refine blk_drew ?_ | refine blk_alloc ?_ _)); refine blk_put (cs := #[.string (⟨#[]⟩ : ByteArray), .string (⟨#[]⟩ : ByteArray)]) ?_ 0 _ rfl; exact bk BK276.out⟩
    have n5_ : Aside0 (Kept w ((w17.setCell ⟨gb276, 0, none⟩ (.string ((rd_T45 l0_3 t274).f0))).setCell ⟨gb276, 1, none⟩ (.string ((rd_T45 l0_3 t274).f1))) (fun k_ => P0_2_ k_ ∨ P0_3_ k_)) := ⟨by repeat (first | (with_reducible first | exact HK.out | apply Kept.alloc | apply Kept.drewN | apply Kept.drew | refine Kept.setCell ?_ (.inr GW272.out) _ | refine Kept.setCell ?_ (.inr GW273.out) _ | refine Kept.setCell ?_ (.inr GW276.out) _) | exact HK.out)⟩
    have n6_ : Aside0 (Below w0.heap.size w0 ((w17.setCell ⟨gb276, 0, none⟩ (.string ((rd_T45 l0_3 t274).f0))).setCell ⟨gb276, 1, none⟩ (.string ((rd_T45 l0_3 t274).f1)))) := ⟨bl3 HB.out GE272.out GE273.out GE276.out⟩
    (try clear HO0_2)
    (try clear HO0_3)
    (try clear BK272)
    (try clear BK273)
    (try clear BK276)
    (try clear HK)
    (try clear HB)
    generalize ((w17.setCell ⟨gb276, 0, none⟩ (.string ((rd_T45 l0_3 t274).f0))).setCell ⟨gb276, 1, none⟩ (.string ((rd_T45 l0_3 t274).f1))) = w21 at n0_ n1_ n2_ n3_ n4_ n5_ n6_ ⊢
    have HO0_2 := n0_
    have HO0_3 := n1_
    have BK272 := n2_
    have BK273 := n3_
    have BK276 := n4_
    have HK := n5_
    have HB := n6_
    clear n0_ n1_ n2_ n3_ n4_ n5_ n6_
    have n0_ := Aside0.mk (Kd.R_drew HO0_2.out)
    have n1_ := Aside0.mk (Kd.R_drew HO0_3.out)
    have n2_ := Aside0.mk (blk_drew BK272.out)
    have n3_ := Aside0.mk (blk_drew BK273.out)
    have n4_ := Aside0.mk (blk_drew BK276.out)
    have n5_ := Aside0.mk (Kept.drew HK.out)
    have n6_ := Aside0.mk (below_drew1 HB.out)
    clear HO0_2
    clear HO0_3
    clear BK272
    clear BK273
    clear BK276
    clear HK
    clear HB
    have HO0_2 := n0_
    have HO0_3 := n1_
    have BK272 := n2_
    have BK273 := n3_
    have BK276 := n4_
    have HK := n5_
    have HB := n6_
    clear n0_ n1_ n2_ n3_ n4_ n5_ n6_
    refine start_ (n := 8) (S := fun w' => w'.cell? ⟨gb272, 0, none⟩ = some (.int .i64 a0_0) ∧ w'.cell? ⟨gb272, 1, none⟩ = some (.int .i64 a0_1) ∧ w'.cell? ⟨gb272, 2, none⟩ = some (.slice Ao9 l0_2.length co9) ∧ w'.cell? ⟨gb272, 3, none⟩ = some (.slice (some ad275) l0_3.length co10) ∧ w'.cell? ⟨gb276, 0, none⟩ = some (.string ((rd_T45 l0_3 t274).f0)) ∧ w'.cell? ⟨gb276, 1, none⟩ = some (.string ((rd_T45 l0_3 t274).f1))) (ds := [7]) #[false, false, false, false, false, false, false, false] (by kernel_rfl) rfl rfl ⟨(blk_cell BK272.out 0).trans rfl, (blk_cell BK272.out 1).trans rfl, (blk_cell BK272.out 2).trans rfl, (blk_cell BK272.out 3).trans rfl, (blk_cell BK276.out 0).trans rfl, (blk_cell BK276.out 1).trans rfl⟩ (fun hHeld => ?_); refine with_tabW spec_l12Get.tab4 spec_l12Get.bits4 (fun HT_ HW_ => ?_)
    generalize w21.drew = w22 at HO0_2 HO0_3 BK272 BK273 BK276 HK HB hHeld ⊢
    refine pure_ (i := 0) (N := some 22) (v := ?_) (a' := ?_) #[true, false, false, false, false, false, false, false] rfl rfl (any_of HT_.out (by kernel_rfl)) (fun _ _ _ h => h) (Or.inl ⟨by rfl, ?_⟩) ?_ ?_
    rotate_left
    ·intro w'
     go_simp
     with_reducible rfl
    rotate_left
    ·simp only [Act.put, List.setIfInBounds_toArray, List.set_cons_zero, List.set_cons_succ, i64_w, i32_w]
     rfl
    refine pure_ (i := 2) (N := some 24) (v := ?_) (a' := ?_) #[true, false, true, false, false, false, false, false] rfl rfl (any_of HT_.out (by kernel_rfl)) (fun _ _ _ h => h) (Or.inl ⟨by rfl, ?_⟩) ?_ ?_
    rotate_left
    ·intro w'
     go_simp
     with_reducible rfl
    rotate_left
    ·simp only [Act.put, List.setIfInBounds_toArray, List.set_cons_zero, List.set_cons_succ, i64_w, i32_w]
     rfl
    refine take_ (i := 1) (N := some 23) (v := ?_) (a' := ?_) #[true, true, true, false, false, false, false, false] rfl rfl (take_ofW HT_.out HW_.out (by kernel_rfl)) (fun _ _ _ h => h) (Or.inl ⟨by rfl, ?_⟩) hHeld ?_ ?_
    rotate_left
    ·rintro w' ⟨s0, s1, s2, s3, s4, s5⟩
     go_simp
     with_reducible rfl
    rotate_left
    ·simp only [Act.put, List.setIfInBounds_toArray, List.set_cons_zero, List.set_cons_succ, i64_w, i32_w]
     rfl
    refine take_ (i := 4) (N := some 26) (v := ?_) (a' := ?_) #[true, true, true, false, true, false, false, false] rfl rfl (take_ofW HT_.out HW_.out (by kernel_rfl)) (fun _ _ _ h => h) (Or.inl ⟨by rfl, ?_⟩) hHeld ?_ ?_
    rotate_left
    ·rintro w' ⟨s0, s1, s2, s3, s4, s5⟩
     go_simp
     with_reducible rfl
    rotate_left
    ·simp only [Act.put, List.setIfInBounds_toArray, List.set_cons_zero, List.set_cons_succ, i64_w, i32_w]
     rfl
    refine one_ (i := 3) (N := some 25) #[true, true, true, true, true, false, false, false] rfl rfl (one_of HT_.out (by kernel_rfl)) (by decide) (fun K hK => ?_)
    refine goes_ Try.func44 (by kernel_rfl) rfl #[.slice (some ad275) l0_3.length co10, .int .i64 t274] (by rfl) rfl rfl (by (try simp only [List.map_toArray, List.map_cons, List.map_nil]); first | done | rfl | (simp only [List.length_drop, List.length_take]; rfl)) ?_
    with_reducible refine (spec_l12Without.calls _ _ l0_3 t274 t277 _ ?side1 ?side2 A7.out).mono ?_
    (case side1 => exact kc (Kd.R_reads' HO0_3.out).2.2)
    (case side2 => exact (Kd.R_reads' HO0_3.out).2.1)
    rintro e w23 ⟨v278, rfl, ho0, hb⟩
    refine ⟨_, rfl, ?_⟩
    have n0_ := Aside0.mk (Kd.R_elder' (kr HO0_2.out) (Kd.R_base ho0) hb)
    have n1_ := Aside0.mk (Kd.R_elder' (kr HO0_3.out) (Kd.R_base ho0) hb)
    have n2_ := Aside0.mk (Kd.R_lower (Kd.R_newB (Kd.R_new' (Kd.R_new' (Kd.R_newM (M := fun k_ => ((P0_2_ k_ ∨ P0_3_ k_) ∨ w.heap.size ≤ k_)) ho0 (by first | exact HK.out.1 | exact (show Kept w _ (fun k_ => P0_2_ k_ ∨ P0_3_ k_) from by repeat (first | (with_reducible first | exact HK.out | apply Kept.alloc | apply Kept.drewN | apply Kept.drew | refine Kept.setCell ?_ (.inr GW272.out) _ | refine Kept.setCell ?_ (.inr GW273.out) _ | refine Kept.setCell ?_ (.inr GW276.out) _) | exact HK.out)).1) (fun k_ h_ => .inr h_)) (Kd.R_lt (kr HO0_2.out))) (Kd.R_lt (kr HO0_3.out))) (g := gb276) (o := .cells #[.string ((rd_T45 l0_3 t274).f0), .string ((rd_T45 l0_3 t274).f1)] 45 (0, 0)) (bk BK276.out)) (below_size (bl3 HB.out GE272.out GE273.out GE276.out)))
    have n3_ := Aside0.mk (blk_below (g := gb272) (o := .cells #[.int .i64 a0_0, .int .i64 a0_1, .slice Ao9 l0_2.length co9, .slice (some ad275) l0_3.length co10] 28 (0, 0)) (bk BK272.out) hb)
    have n4_ := Aside0.mk (blk_below (g := gb273) (o := .cells #[.int .i64 0, .int .i64 0, .slice none 0 0, .slice none 0 0] 28 (0, 0)) (bk BK273.out) hb)
    have n5_ := Aside0.mk (blk_below (g := gb276) (o := .cells #[.string ((rd_T45 l0_3 t274).f0), .string ((rd_T45 l0_3 t274).f1)] 45 (0, 0)) (bk BK276.out) hb)
    have n6_ := Aside0.mk (Kept.below (S := (fun k_ => P0_2_ k_ ∨ P0_3_ k_)) (by repeat (first | (with_reducible first | exact HK.out | apply Kept.alloc | apply Kept.drewN | apply Kept.drew | refine Kept.setCell ?_ (.inr GW272.out) _ | refine Kept.setCell ?_ (.inr GW273.out) _ | refine Kept.setCell ?_ (.inr GW276.out) _) | exact HK.out)) hb)
    have n7_ := Aside0.mk (below_step (bl3 HB.out GE272.out GE273.out GE276.out) hb)
    clear HO0_2
    clear HO0_3
    clear BK272
    clear BK273
    clear BK276
    clear HK
    clear HB
    have HO0_2 := n0_
    have HO0_3 := n1_
    have HO279 := n2_
    have BK272 := n3_
    have BK273 := n4_
    have BK276 := n5_
    have HK := n6_
    have HB := n7_
    clear n0_ n1_ n2_ n3_ n4_ n5_ n6_ n7_
    (try clear hb)
    (try clear hb2)
    (try clear hk)
    (try clear hi)
    (try clear ho0)
    obtain ⟨Ao24, co24, eo24⟩ := Kd.R_slice HO279.out
    (first | subst eo24 | (injection eo24 with f1_ f2_ f3_; have f4_ := f1_.symm; have f5_ := f3_.symm; clear f1_ f2_ f3_; subst f4_; subst f5_))
    refine hK.out _ _ ⟨(blk_cell BK272.out 0).trans rfl, (blk_cell BK272.out 1).trans rfl, (blk_cell BK272.out 2).trans rfl, (blk_cell BK272.out 3).trans rfl, (blk_cell BK276.out 0).trans rfl, (blk_cell BK276.out 1).trans rfl⟩ (fun hHeld => ?_)
    clear hK K
    refine norm_ (a' := ?_) ?_ ?_
    rotate_left
    ·show Act.put _ (some 25) _ = _
     simp only [Act.put, List.setIfInBounds_toArray, List.set_cons_zero, List.set_cons_succ, i64_w, i32_w]
     rfl
    refine one_ (i := 5) (N := some 27) #[true, true, true, true, true, true, false, false] rfl rfl (one_of HT_.out (by kernel_rfl)) (by decide) (fun K hK => ?_)
    refine goes_ Try.func80 (by kernel_rfl) rfl #[.slice Ao24 t277.length co24, .agg #[.string ((rd_T45 l0_3 t274).f0), .string ((rd_T45 l0_3 t274).f1)]] (by rfl) rfl rfl (by (try simp only [List.map_toArray, List.map_cons, List.map_nil]); first | done | rfl | (simp only [List.length_drop, List.length_take]; rfl)) ?_
    with_reducible refine (spec_l12Ahead.calls _ _ t277 ((rd_T45 l0_3 t274).f0) ((rd_T45 l0_3 t274).f1) t280 _ ?side1 ?side2 A8.out).mono ?_
    (case side1 => exact kc (Kd.R_reads' HO279.out).2.2)
    (case side2 => exact (Kd.R_reads' HO279.out).2.1)
    rintro e w25 ⟨v281, rfl, ho0, hb⟩
    refine ⟨_, rfl, ?_⟩
    have n0_ := Aside0.mk (Kd.R_elder' (kr HO0_2.out) (Kd.R_base ho0) hb)
    have n1_ := Aside0.mk (Kd.R_elder' (kr HO0_3.out) (Kd.R_base ho0) hb)
    have n2_ := Aside0.mk (Kd.R_elder' (kr HO279.out) (Kd.R_base ho0) hb)
    have n3_ := Aside0.mk (Kd.R_lower (Kd.R_newB (Kd.R_new' (Kd.R_new' (Kd.R_new' (Kd.R_newM (M := fun k_ => ((P0_2_ k_ ∨ P0_3_ k_) ∨ w.heap.size ≤ k_)) ho0 (by first | exact HK.out.1 | exact (show Kept w _ (fun k_ => P0_2_ k_ ∨ P0_3_ k_) from by repeat (first | (with_reducible first | exact HK.out | apply Kept.alloc | apply Kept.drewN | apply Kept.drew | refine Kept.setCell ?_ (.inr GW272.out) _ | refine Kept.setCell ?_ (.inr GW273.out) _ | refine Kept.setCell ?_ (.inr GW276.out) _) | exact HK.out)).1) (fun k_ h_ => .inr h_)) (Kd.R_lt (kr HO0_2.out))) (Kd.R_lt (kr HO0_3.out))) (Kd.R_lt (kr HO279.out))) (g := gb276) (o := .cells #[.string ((rd_T45 l0_3 t274).f0), .string ((rd_T45 l0_3 t274).f1)] 45 (0, 0)) (bk BK276.out)) (below_size (bl3 HB.out GE272.out GE273.out GE276.out)))
    have n4_ := Aside0.mk (blk_below (g := gb272) (o := .cells #[.int .i64 a0_0, .int .i64 a0_1, .slice Ao9 l0_2.length co9, .slice (some ad275) l0_3.length co10] 28 (0, 0)) (bk BK272.out) hb)
    have n5_ := Aside0.mk (blk_below (g := gb273) (o := .cells #[.int .i64 0, .int .i64 0, .slice none 0 0, .slice none 0 0] 28 (0, 0)) (bk BK273.out) hb)
    have n6_ := Aside0.mk (blk_below (g := gb276) (o := .cells #[.string ((rd_T45 l0_3 t274).f0), .string ((rd_T45 l0_3 t274).f1)] 45 (0, 0)) (bk BK276.out) hb)
    have n7_ := Aside0.mk (Kept.below (S := (fun k_ => P0_2_ k_ ∨ P0_3_ k_)) (by repeat (first | (with_reducible first | exact HK.out | apply Kept.alloc | apply Kept.drewN | apply Kept.drew | refine Kept.setCell ?_ (.inr GW272.out) _ | refine Kept.setCell ?_ (.inr GW273.out) _ | refine Kept.setCell ?_ (.inr GW276.out) _) | exact HK.out)) hb)
    have n8_ := Aside0.mk (below_step (bl3 HB.out GE272.out GE273.out GE276.out) hb)
    clear HO0_2
    clear HO0_3
    clear HO279
    clear BK272
    clear BK273
    clear BK276
    clear HK
    clear HB
    have HO0_2 := n0_
    have HO0_3 := n1_
    have HO279 := n2_
    have HO282 := n3_
    have BK272 := n4_
    have BK273 := n5_
    have BK276 := n6_
    have HK := n7_
    have HB := n8_
    clear n0_ n1_ n2_ n3_ n4_ n5_ n6_ n7_ n8_
    (try clear hb)
    (try clear hb2)
    (try clear hk)
    (try clear hi)
    (try clear ho0)
    obtain ⟨Ao26, co26, eo26⟩ := Kd.R_slice HO282.out
    (first | subst eo26 | (injection eo26 with f1_ f2_ f3_; have f4_ := f1_.symm; have f5_ := f3_.symm; clear f1_ f2_ f3_; subst f4_; subst f5_))
    refine hK.out _ _ ⟨(blk_cell BK272.out 0).trans rfl, (blk_cell BK272.out 1).trans rfl, (blk_cell BK272.out 2).trans rfl, (blk_cell BK272.out 3).trans rfl, (blk_cell BK276.out 0).trans rfl, (blk_cell BK276.out 1).trans rfl⟩ (fun hHeld => ?_)
    clear hK K
    refine norm_ (a' := ?_) ?_ ?_
    rotate_left
    ·show Act.put _ (some 27) _ = _
     simp only [Act.put, List.setIfInBounds_toArray, List.set_cons_zero, List.set_cons_succ, i64_w, i32_w]
     rfl
    refine pure_ (i := 6) (N := some 28) (v := ?_) (a' := ?_) #[true, true, true, true, true, true, true, false] rfl rfl (any_of HT_.out (by kernel_rfl)) (fun _ _ _ h => h) (Or.inl ⟨by rfl, ?_⟩) ?_ ?_
    rotate_left
    ·intro w'
     go_simp
     with_reducible rfl
    rotate_left
    ·simp only [Act.put, List.setIfInBounds_toArray, List.set_cons_zero, List.set_cons_succ, i64_w, i32_w]
     rfl
    refine last_ (i := 7) (N := none) #[true, true, true, true, true, true, true, true] rfl rfl (one_of HT_.out (by kernel_rfl)) (by decide) (fun K hK => ?_)
    have hs27 : w25.cell? ⟨gb272, 3, none⟩ = some (.slice (some ad275) l0_3.length co10) := (blk_cell BK272.out 3).trans rfl
    have hfs27 := blk_frozen BK272.out 3
    have hns27_1 := NB273_272.out
    have hns27_2 := NB276_272.out
    have hms27_1 := NB272_273.out
    have hms27_2 := NB272_276.out
    refine skip_ (w1 := ?_) (by rfl) rfl ?_ ?_
    rotate_left
    ·go_simp
     rfl
    refine hK.out _ _ ?_
    clear hK K
    refine done_ (done_of HT_.out (by kernel_rfl)) ?_
    try go_wp2
    have n0_ : Aside0 (Kd.R k45 45 (w25.setCell ⟨gb272, 3, none⟩ (.slice Ao26 t280.length co26)) w0.heap.size (fun k_ => ((P0_2_ k_ ∨ P0_3_ k_) ∨ w.heap.size ≤ k_) ∧ some k_ ≠ (.slice (some ad275) l0_3.length co10 : Value).ownBlock ∧ some k_ ≠ (.slice Ao24 t277.length co24 : Value).ownBlock ∧ some k_ ≠ (.slice Ao26 t280.length co26 : Value).ownBlock ∧ k_ ≠ gb276) (.slice Ao9 l0_2.length co9) l0_2) := ⟨by (with_reducible repeat (first | apply Kd.R_alloc | apply Kd.R_drewN | apply Kd.R_drew)); exact Kd.R_mono (Kd.R_far (p := ⟨gb272, 3, none⟩) (Kd.R_types HO0_2.out BK272.out (by decide)) (fun _ hk => hk.2) (.slice Ao26 t280.length co26)) (fun _ hk => ⟨hk.1.1.1.1, ⟨hk.1.1.1.2.1, ⟨hk.1.1.2, ⟨hk.1.2, hk.1.1.1.2.2⟩⟩⟩⟩)⟩
    have n1_ : Aside0 (Kd.R k45 45 (w25.setCell ⟨gb272, 3, none⟩ (.slice Ao26 t280.length co26)) w0.heap.size (fun k_ => ((P0_2_ k_ ∨ P0_3_ k_) ∨ w.heap.size ≤ k_) ∧ some k_ ≠ (.slice Ao9 l0_2.length co9 : Value).ownBlock ∧ some k_ ≠ (.slice Ao24 t277.length co24 : Value).ownBlock ∧ some k_ ≠ (.slice Ao26 t280.length co26 : Value).ownBlock ∧ k_ ≠ gb276) (.slice (some ad275) l0_3.length co10) l0_3) := ⟨by (with_reducible repeat (first | apply Kd.R_alloc | apply Kd.R_drewN | apply Kd.R_drew)); exact Kd.R_mono (Kd.R_far (p := ⟨gb272, 3, none⟩) (Kd.R_types HO0_3.out BK272.out (by decide)) (fun _ hk => hk.2) (.slice Ao26 t280.length co26)) (fun _ hk => ⟨hk.1.1.1.1, ⟨hk.1.1.1.2.1, ⟨hk.1.1.2, ⟨hk.1.2, hk.1.1.1.2.2⟩⟩⟩⟩)⟩
    have n2_ : Aside0 (Kd.R k45 45 (w25.setCell ⟨gb272, 3, none⟩ (.slice Ao26 t280.length co26)) w0.heap.size (fun k_ => ((P0_2_ k_ ∨ P0_3_ k_) ∨ w.heap.size ≤ k_) ∧ some k_ ≠ (.slice Ao9 l0_2.length co9 : Value).ownBlock ∧ some k_ ≠ (.slice (some ad275) l0_3.length co10 : Value).ownBlock ∧ some k_ ≠ (.slice Ao26 t280.length co26 : Value).ownBlock ∧ k_ ≠ gb276) (.slice Ao24 t277.length co24) t277) := ⟨by (with_reducible repeat (first | apply Kd.R_alloc | apply Kd.R_drewN | apply Kd.R_drew)); exact Kd.R_mono (Kd.R_far (p := ⟨gb272, 3, none⟩) (Kd.R_types HO279.out BK272.out (by decide)) (fun _ hk => hk.2) (.slice Ao26 t280.length co26)) (fun _ hk => ⟨hk.1.1.1.1.1.1, ⟨hk.1.1.1.1.2, ⟨hk.1.1.1.2, ⟨hk.1.2, hk.1.1.2⟩⟩⟩⟩)⟩
    have n3_ : Aside0 (Kd.R k45 45 (w25.setCell ⟨gb272, 3, none⟩ (.slice Ao26 t280.length co26)) w0.heap.size (fun k_ => ((P0_2_ k_ ∨ P0_3_ k_) ∨ w.heap.size ≤ k_) ∧ some k_ ≠ (.slice Ao9 l0_2.length co9 : Value).ownBlock ∧ some k_ ≠ (.slice (some ad275) l0_3.length co10 : Value).ownBlock ∧ some k_ ≠ (.slice Ao24 t277.length co24 : Value).ownBlock ∧ k_ ≠ gb276) (.slice Ao26 t280.length co26) t280) := ⟨by (with_reducible repeat (first | apply Kd.R_alloc | apply Kd.R_drewN | apply Kd.R_drew)); exact Kd.R_mono (Kd.R_far (p := ⟨gb272, 3, none⟩) (Kd.R_types HO282.out BK272.out (by decide)) (fun _ hk => hk.2) (.slice Ao26 t280.length co26)) (fun _ hk => ⟨hk.1.1.1.1.1.1, ⟨hk.1.1.1.1.2, ⟨hk.1.1.1.2, ⟨hk.1.1.2, hk.1.2⟩⟩⟩⟩)⟩
    have n4_ : Aside0 ((w25.setCell ⟨gb272, 3, none⟩ (.slice Ao26 t280.length co26)).heap[gb272]? = some (.cells #[.int .i64 a0_0, .int .i64 a0_1, .slice Ao9 l0_2.length co9, .slice Ao26 t280.length co26] 28 (0, 0))) := ⟨by (with_reducible repeat (first | refine blk_drewN ?_ _ | refine blk_drew ?_ | refine blk_alloc ?_ _)); refine blk_put (cs := #[.int .i64 a0_0, .int .i64 a0_1, .slice Ao9 l0_2.length co9, .slice (some ad275) l0_3.length co10]) ?_ 3 _ rfl; exact bk BK272.out⟩
    have n5_ : Aside0 ((w25.setCell ⟨gb272, 3, none⟩ (.slice Ao26 t280.length co26)).heap[gb273]? = some (.cells #[.int .i64 0, .int .i64 0, .slice none 0 0, .slice none 0 0] 28 (0, 0))) := ⟨by (with_reducible repeat (first | refine blk_drewN ?_ _ | refine blk_drew ?_ | refine blk_alloc ?_ _)); refine blk_far ?_ NB273_272.out _; exact bk BK273.out⟩
    have n6_ : Aside0 ((w25.setCell ⟨gb272, 3, none⟩ (.slice Ao26 t280.length co26)).heap[gb276]? = some (.cells #[.string ((rd_T45 l0_3 t274).f0), .string ((rd_T45 l0_3 t274).f1)] 45 (0, 0))) := ⟨by (with_reducible repeat (first | refine blk_drewN ?_ _ | refine blk_drew ?_ | refine blk_alloc ?_ _)); refine blk_far ?_ NB276_272.out _; exact bk BK276.out⟩
    have n7_ : Aside0 (Kept w (w25.setCell ⟨gb272, 3, none⟩ (.slice Ao26 t280.length co26)) (fun k_ => P0_2_ k_ ∨ P0_3_ k_)) := ⟨by repeat (first | (with_reducible first | exact HK.out | apply Kept.alloc | apply Kept.drewN | apply Kept.drew | refine Kept.setCell ?_ (.inr GW272.out) _ | refine Kept.setCell ?_ (.inr GW273.out) _ | refine Kept.setCell ?_ (.inr GW276.out) _) | exact HK.out)⟩
    have n8_ : Aside0 (Below w0.heap.size w0 (w25.setCell ⟨gb272, 3, none⟩ (.slice Ao26 t280.length co26))) := ⟨bl3 HB.out GE272.out GE273.out GE276.out⟩
    (try clear HO0_2)
    (try clear HO0_3)
    (try clear HO279)
    (try clear HO282)
    (try clear BK272)
    (try clear BK273)
    (try clear BK276)
    (try clear HK)
    (try clear HB)
    generalize (w25.setCell ⟨gb272, 3, none⟩ (.slice Ao26 t280.length co26)) = w28 at n0_ n1_ n2_ n3_ n4_ n5_ n6_ n7_ n8_ ⊢
    have HO0_2 := n0_
    have HO0_3 := n1_
    have HO279 := n2_
    have HO282 := n3_
    have BK272 := n4_
    have BK273 := n5_
    have BK276 := n6_
    have HK := n7_
    have HB := n8_
    clear n0_ n1_ n2_ n3_ n4_ n5_ n6_ n7_ n8_
    have n0_ := Aside0.mk (Kd.R_drew HO0_2.out)
    have n1_ := Aside0.mk (Kd.R_drew HO0_3.out)
    have n2_ := Aside0.mk (Kd.R_drew HO279.out)
    have n3_ := Aside0.mk (Kd.R_drew HO282.out)
    have n4_ := Aside0.mk (blk_drew BK272.out)
    have n5_ := Aside0.mk (blk_drew BK273.out)
    have n6_ := Aside0.mk (blk_drew BK276.out)
    have n7_ := Aside0.mk (Kept.drew HK.out)
    have n8_ := Aside0.mk (below_drew1 HB.out)
    clear HO0_2
    clear HO0_3
    clear HO279
    clear HO282
    clear BK272
    clear BK273
    clear BK276
    clear HK
    clear HB
    have HO0_2 := n0_
    have HO0_3 := n1_
    have HO279 := n2_
    have HO282 := n3_
    have BK272 := n4_
    have BK273 := n5_
    have BK276 := n6_
    have HK := n7_
    have HB := n8_
    clear n0_ n1_ n2_ n3_ n4_ n5_ n6_ n7_ n8_
    refine start_ (n := 6) (S := fun w' => w'.cell? ⟨gb272, 0, none⟩ = some (.int .i64 a0_0) ∧ w'.cell? ⟨gb272, 1, none⟩ = some (.int .i64 a0_1) ∧ w'.cell? ⟨gb272, 2, none⟩ = some (.slice Ao9 l0_2.length co9) ∧ w'.cell? ⟨gb272, 3, none⟩ = some (.slice Ao26 t280.length co26) ∧ w'.cell? ⟨gb276, 0, none⟩ = some (.string ((rd_T45 l0_3 t274).f0)) ∧ w'.cell? ⟨gb276, 1, none⟩ = some (.string ((rd_T45 l0_3 t274).f1))) (ds := []) #[false, false, false, false, false, false] (by kernel_rfl) rfl rfl ⟨(blk_cell BK272.out 0).trans rfl, (blk_cell BK272.out 1).trans rfl, (blk_cell BK272.out 2).trans rfl, (blk_cell BK272.out 3).trans rfl, (blk_cell BK276.out 0).trans rfl, (blk_cell BK276.out 1).trans rfl⟩ (fun hHeld => ?_)
    generalize w28.drew = w29 at HO0_2 HO0_3 HO279 HO282 BK272 BK273 BK276 HK HB hHeld ⊢
    refine pure_ (i := 1) (N := some 30) (v := ?_) (a' := ?_) #[false, true, false, false, false, false] rfl rfl (by kernel_rfl) (fun _ _ _ h => h) (Or.inl ⟨by rfl, ?_⟩) ?_ ?_
    rotate_left
    ·intro w'
     go_simp
     with_reducible rfl
    rotate_left
    ·simp only [Act.put, List.setIfInBounds_toArray, List.set_cons_zero, List.set_cons_succ, i64_w, i32_w]
     rfl
    refine take_ (i := 0) (N := some 29) (v := ?_) (a' := ?_) #[true, true, false, false, false, false] rfl rfl (by kernel_rfl) (fun _ _ _ h => h) (Or.inl ⟨by rfl, ?_⟩) hHeld ?_ ?_
    rotate_left
    ·rintro w' ⟨s0, s1, s2, s3, s4, s5⟩
     go_simp
     with_reducible rfl
    rotate_left
    ·simp only [Act.put, List.setIfInBounds_toArray, List.set_cons_zero, List.set_cons_succ, i64_w, i32_w]
     rfl
    refine take_ (i := 2) (N := some 31) (v := ?_) (a' := ?_) #[true, true, true, false, false, false] rfl rfl (by kernel_rfl) (fun _ _ _ h => h) (Or.inl ⟨by rfl, ?_⟩) hHeld ?_ ?_
    rotate_left
    ·rintro w' ⟨s0, s1, s2, s3, s4, s5⟩
     go_simp
     with_reducible rfl
    rotate_left
    ·simp only [Act.put, List.setIfInBounds_toArray, List.set_cons_zero, List.set_cons_succ, i64_w, i32_w]
     rfl
    refine one_ (i := 3) (N := none) #[true, true, true, true, false, false] rfl rfl (by kernel_rfl) (by decide) (fun K hK => ?_)
    have hs30 : w29.cell? ⟨gb273, 0, none⟩ = some (.int .i64 0) := (blk_cell BK273.out 0).trans rfl
    have hfs30 := blk_frozen BK273.out 0
    have hns30_0 := NB272_273.out
    have hns30_2 := NB276_273.out
    have hms30_0 := NB273_272.out
    have hms30_2 := NB273_276.out
    have hs31 : w29.cell? ⟨gb273, 1, none⟩ = some (.int .i64 0) := (blk_cell BK273.out 1).trans rfl
    have hfs31 := blk_frozen BK273.out 1
    have hns31_0 := NB272_273.out
    have hns31_2 := NB276_273.out
    have hms31_0 := NB273_272.out
    have hms31_2 := NB273_276.out
    have hs32 : w29.cell? ⟨gb273, 2, none⟩ = some (.slice none 0 0) := (blk_cell BK273.out 2).trans rfl
    have hfs32 := blk_frozen BK273.out 2
    have hns32_0 := NB272_273.out
    have hns32_2 := NB276_273.out
    have hms32_0 := NB273_272.out
    have hms32_2 := NB273_276.out
    have hs33 : w29.cell? ⟨gb273, 3, none⟩ = some (.slice none 0 0) := (blk_cell BK273.out 3).trans rfl
    have hfs33 := blk_frozen BK273.out 3
    have hns33_0 := NB272_273.out
    have hns33_2 := NB276_273.out
    have hms33_0 := NB273_272.out
    have hms33_2 := NB273_276.out
    refine skip_ (w1 := ?_) (by rfl) rfl ?_ ?_
    rotate_left
    ·go_simp
     rfl
    refine hK.out _ _ ⟨((cell_far (p := ⟨gb273, _, none⟩) NB272_273.out _).trans (((cell_far (p := ⟨gb273, _, none⟩) NB272_273.out _).trans (((cell_far (p := ⟨gb273, _, none⟩) NB272_273.out _).trans (((cell_far (p := ⟨gb273, _, none⟩) NB272_273.out _).trans (hHeld.1)))))))), ((cell_far (p := ⟨gb273, _, none⟩) NB272_273.out _).trans (((cell_far (p := ⟨gb273, _, none⟩) NB272_273.out _).trans (((cell_far (p := ⟨gb273, _, none⟩) NB272_273.out _).trans (((cell_far (p := ⟨gb273, _, none⟩) NB272_273.out _).trans (hHeld.2.1)))))))), ((cell_far (p := ⟨gb273, _, none⟩) NB272_273.out _).trans (((cell_far (p := ⟨gb273, _, none⟩) NB272_273.out _).trans (((cell_far (p := ⟨gb273, _, none⟩) NB272_273.out _).trans (((cell_far (p := ⟨gb273, _, none⟩) NB272_273.out _).trans (hHeld.2.2.1)))))))), ((cell_far (p := ⟨gb273, _, none⟩) NB272_273.out _).trans (((cell_far (p := ⟨gb273, _, none⟩) NB272_273.out _).trans (((cell_far (p := ⟨gb273, _, none⟩) NB272_273.out _).trans (((cell_far (p := ⟨gb273, _, none⟩) NB272_273.out _).trans (hHeld.2.2.2.1)))))))), ((cell_far (p := ⟨gb273, _, none⟩) NB276_273.out _).trans (((cell_far (p := ⟨gb273, _, none⟩) NB276_273.out _).trans (((cell_far (p := ⟨gb273, _, none⟩) NB276_273.out _).trans (((cell_far (p := ⟨gb273, _, none⟩) NB276_273.out _).trans (hHeld.2.2.2.2.1)))))))), ((cell_far (p := ⟨gb273, _, none⟩) NB276_273.out _).trans (((cell_far (p := ⟨gb273, _, none⟩) NB276_273.out _).trans (((cell_far (p := ⟨gb273, _, none⟩) NB276_273.out _).trans (((cell_far (p := ⟨gb273, _, none⟩) NB276_273.out _).trans (hHeld.2.2.2.2.2))))))))⟩ (fun hHeld => ?_)
    clear hK K
    refine pure_ (i := 4) (N := some 5) (v := ?_) (a' := ?_) #[true, true, true, true, true, false] rfl rfl (by kernel_rfl) (fun _ _ _ h => h) (Or.inl ⟨by rfl, ?_⟩) ?_ ?_
    rotate_left
    ·intro w'
     go_simp
     with_reducible rfl
    rotate_left
    ·simp only [Act.put, List.setIfInBounds_toArray, List.set_cons_zero, List.set_cons_succ, i64_w, i32_w]
     rfl
    refine pure_ (i := 5) (N := some 6) (v := ?_) (a' := ?_) #[true, true, true, true, true, true] rfl rfl (by kernel_rfl) (fun _ _ _ h => h) (Or.inl ⟨by rfl, ?_⟩) ?_ ?_
    rotate_left
    ·intro w'
     go_simp
     with_reducible rfl
    rotate_left
    ·simp only [Act.put, List.setIfInBounds_toArray, List.set_cons_zero, List.set_cons_succ, i64_w, i32_w]
     rfl
    refine done_ (by kernel_rfl) ?_
    try go_wp2
    refine bodyPost_ret (results_ctt rfl _ _ gb273 28 #[.int .i64 a0_0, .int .i64 a0_1, .slice Ao9 l0_2.length co9, .slice Ao26 t280.length co26] (0, 0) _ rfl (by (with_reducible repeat (first | refine blk_drewN ?_ _ | refine blk_drew ?_ | refine blk_alloc ?_ _)); refine blk_put (cs := #[.int .i64 a0_0, .int .i64 a0_1, .slice Ao9 l0_2.length co9, .slice none 0 0]) ?_ 3 _ rfl; (with_reducible repeat (first | refine blk_drewN ?_ _ | refine blk_drew ?_ | refine blk_alloc ?_ _)); refine blk_put (cs := #[.int .i64 a0_0, .int .i64 a0_1, .slice none 0 0, .slice none 0 0]) ?_ 2 _ rfl; (with_reducible repeat (first | refine blk_drewN ?_ _ | refine blk_drew ?_ | refine blk_alloc ?_ _)); refine blk_put (cs := #[.int .i64 a0_0, .int .i64 0, .slice none 0 0, .slice none 0 0]) ?_ 1 _ rfl; (with_reducible repeat (first | refine blk_drewN ?_ _ | refine blk_drew ?_ | refine blk_alloc ?_ _)); refine blk_put (cs := #[.int .i64 0, .int .i64 0, .slice none 0 0, .slice none 0 0]) ?_ 0 _ rfl; exact bk BK273.out) Try.underlying28 rfl (by kernel_rfl)) rfl ?_
    exact ⟨_, _, by first | rfl | (simp [errW_none, errW_some] <;> rfl) | (simp [*, errW_none, errW_some] <;> rfl), by (with_reducible repeat (first | apply Kd.R_alloc | apply Kd.R_drewN | apply Kd.R_drew)); exact Kd.R_mono (Kd.R_far (p := ⟨gb273, 3, none⟩) (Kd.R_far (p := ⟨gb273, 2, none⟩) (Kd.R_far (p := ⟨gb273, 1, none⟩) (Kd.R_far (p := ⟨gb273, 0, none⟩) (Kd.R_types HO0_2.out BK273.out (by decide)) (fun _ hk => hk.2) (.int .i64 a0_0)) (fun _ hk => hk.2) (.int .i64 a0_1)) (fun _ hk => hk.2) (.slice Ao9 l0_2.length co9)) (fun _ hk => hk.2) (.slice Ao26 t280.length co26)) (fun _ hk => ⟨hk.1.1, hk.1.2.2.2.1⟩), by (with_reducible repeat (first | apply Kd.R_alloc | apply Kd.R_drewN | apply Kd.R_drew)); exact Kd.R_mono (Kd.R_far (p := ⟨gb273, 3, none⟩) (Kd.R_far (p := ⟨gb273, 2, none⟩) (Kd.R_far (p := ⟨gb273, 1, none⟩) (Kd.R_far (p := ⟨gb273, 0, none⟩) (Kd.R_types HO282.out BK273.out (by decide)) (fun _ hk => hk.2) (.int .i64 a0_0)) (fun _ hk => hk.2) (.int .i64 a0_1)) (fun _ hk => hk.2) (.slice Ao9 l0_2.length co9)) (fun _ hk => hk.2) (.slice Ao26 t280.length co26)) (fun _ hk => ⟨hk.1.1, hk.1.2.1⟩), bl3 HB.out GE272.out GE273.out GE276.out, by repeat (first | (with_reducible first | exact HK.out | apply Kept.alloc | apply Kept.drewN | apply Kept.drew | refine Kept.setCell ?_ (.inr GW272.out) _ | refine Kept.setCell ?_ (.inr GW273.out) _ | refine Kept.setCell ?_ (.inr GW276.out) _) | exact HK.out)⟩
   ·rw [if_neg c6] at H
    exact absurd H (by simp)
  ·rw [if_neg c5] at H
   exact absurd H (by simp)
 ·rw [if_neg c4] at H
  have c4b0 : decide (0 ≤ t274) = false := decide_eq_false c4
  clear c4
  replace H := Option.bind_eq_some_iff.mp H
  obtain ⟨t283, A340, H⟩ := H
  try dsimp only at H
  have A34 := Aside0.mk A340
  clear A340
  by_cases c35 : t283 < 0
  ·rw [if_pos c35] at H
   have c35b0 : decide (t283 < 0) = true := decide_eq_true c35
   clear c35
   simp only [Option.some.injEq, Prod.mk.injEq] at H
   obtain ⟨rfl, rfl, rfl, rfl, rfl, rfl⟩ := H
   obtain ⟨Ao36, co36, eo36⟩ := Kd.R_slice HO0_2.out
   subst eo36
   obtain ⟨Ao37, co37, eo37⟩ := Kd.R_slice HO0_3.out
   subst eo37
   go_enter Try.func57, Try.ntmps57
   go_wp2_with (first | ((with_reducible refine gate_dst (N := 2) rfl ?_); refine box_event ?hg (N := 2) ?hd (cs := #[.int .i64 a0_0, .int .i64 a0_1, .slice Ao36 l0_2.length co36, .slice Ao37 l0_3.length co37]) (t := 28) ?hr ?_; (case hd => rfl); (case hg => rfl); (case hr => first | (go_simp; done) | (go_simp; rfl)); intro gb272 hg w38 hbox hb; have n0_ := Aside0.mk (Kd.R_below (kr HO0_2.out) hb); have n1_ := Aside0.mk (Kd.R_below (kr HO0_3.out) hb); have n2_ := Aside0.mk (Kept.below (S := (fun k_ => P0_2_ k_ ∨ P0_3_ k_)) (by repeat (first | (with_reducible first | exact HK.out | apply Kept.alloc | apply Kept.drewN | apply Kept.drew) | exact HK.out)) hb); have n3_ := Aside0.mk (below_step (bl HB.out) hb); have n4_ := Aside0.mk (hbox); have n5_ := Aside0.mk ((by rw [hg]; exact (by first | exact HK.out.1 | exact (show Kept w _ (fun k_ => P0_2_ k_ ∨ P0_3_ k_) from by repeat (first | (with_reducible first | exact HK.out | apply Kept.alloc | apply Kept.drewN | apply Kept.drew) | exact HK.out)).1) : w.heap.size ≤ gb272)); have n6_ := Aside0.mk ((by rw [hg]; exact (below_size (bl HB.out)) : w0.heap.size ≤ gb272)); clear HO0_2; clear HO0_3; clear HK; clear HB; have HO0_2 := n0_; have HO0_3 := n1_; have HK := n2_; have HB := n3_; have BK272 := n4_; have GW272 := n5_; have GE272 := n6_; clear n0_ n1_ n2_ n3_ n4_ n5_ n6_; clear hb hbox hg) | ((with_reducible refine gate_dst (N := 4) rfl ?_); refine box_event ?hg (N := 4) ?hd (cs := #[.int .i64 0, .int .i64 0, .slice none 0 0, .slice none 0 0]) (t := 28) ?hr ?_; (case hd => rfl); (case hg => rfl); (case hr => first | (go_simp; done) | (go_simp; rfl)); intro gb273 hg w39 hbox hb; have n0_ := Aside0.mk (Kd.R_below (kr HO0_2.out) hb); have n1_ := Aside0.mk (Kd.R_below (kr HO0_3.out) hb); have n2_ := Aside0.mk (blk_below (g := gb272) (o := .cells #[.int .i64 a0_0, .int .i64 a0_1, .slice Ao36 l0_2.length co36, .slice Ao37 l0_3.length co37] 28 (0, 0)) (bk BK272.out) hb); have n3_ := Aside0.mk (Kept.below (S := (fun k_ => P0_2_ k_ ∨ P0_3_ k_)) (by repeat (first | (with_reducible first | exact HK.out | apply Kept.alloc | apply Kept.drewN | apply Kept.drew | refine Kept.setCell ?_ (.inr GW272.out) _) | exact HK.out)) hb); have n4_ := Aside0.mk (below_step (bl1 HB.out GE272.out) hb); have n5_ := Aside0.mk (hbox); have n6_ := Aside0.mk ((by rw [hg]; exact (by first | exact HK.out.1 | exact (show Kept w _ (fun k_ => P0_2_ k_ ∨ P0_3_ k_) from by repeat (first | (with_reducible first | exact HK.out | apply Kept.alloc | apply Kept.drewN | apply Kept.drew | refine Kept.setCell ?_ (.inr GW272.out) _) | exact HK.out)).1) : w.heap.size ≤ gb273)); have n7_ := Aside0.mk ((by rw [hg]; exact (below_size (bl1 HB.out GE272.out)) : w0.heap.size ≤ gb273)); have n8_ := Aside0.mk ((by rw [hg]; exact Nat.ne_of_lt (blk_lt (g := gb272) (o := .cells #[.int .i64 a0_0, .int .i64 a0_1, .slice Ao36 l0_2.length co36, .slice Ao37 l0_3.length co37] 28 (0, 0)) (bk BK272.out)) : gb272 ≠ gb273)); have n9_ := Aside0.mk ((by rw [hg]; exact Nat.ne_of_gt (blk_lt (g := gb272) (o := .cells #[.int .i64 a0_0, .int .i64 a0_1, .slice Ao36 l0_2.length co36, .slice Ao37 l0_3.length co37] 28 (0, 0)) (bk BK272.out)) : gb273 ≠ gb272)); clear HO0_2; clear HO0_3; clear BK272; clear HK; clear HB; have HO0_2 := n0_; have HO0_3 := n1_; have BK272 := n2_; have HK := n3_; have HB := n4_; have BK273 := n5_; have GW273 := n6_; have GE273 := n7_; have NB272_273 := n8_; have NB273_272 := n9_; clear n0_ n1_ n2_ n3_ n4_ n5_ n6_ n7_ n8_ n9_; clear hb hbox hg; have hnb40 := NB272_273.out; have hnc40 := NB273_272.out; have hcz41_0 : w39.cell? ⟨gb272, 0, none⟩ = some (.int .i64 a0_0) := (blk_cell BK272.out 0).trans rfl; have hcz41_1 : w39.cell? ⟨gb272, 1, none⟩ = some (.int .i64 a0_1) := (blk_cell BK272.out 1).trans rfl; have hcz41_2 : w39.cell? ⟨gb272, 2, none⟩ = some (.slice Ao36 l0_2.length co36) := (blk_cell BK272.out 2).trans rfl; have hcz41_3 : w39.cell? ⟨gb272, 3, none⟩ = some (.slice Ao37 l0_3.length co37) := (blk_cell BK272.out 3).trans rfl; have hfz41_0 := blk_frozen BK272.out 0; have hfz41_1 := blk_frozen BK272.out 1; have hfz41_2 := blk_frozen BK272.out 2; have hfz41_3 := blk_frozen BK272.out 3) | ((with_reducible refine gate_callee (f := 43) rfl ?_); refine goesL_ (some 14) rfl rfl Try.func43 (by kernel_rfl) rfl #[.slice Ao37 l0_3.length co37, .string a1] rfl (by (try simp only [List.map_toArray, List.map_cons, List.map_nil]); first | done | rfl | (simp only [List.length_drop, List.length_take]; rfl)) ?_; (with_reducible refine (spec_l12At.calls k _ _ l0_3 a1 t274 _ ?side1 ?side2 A3.out).mono ?_); (case side1 => exact kc (Kd.R_reads' HO0_3.out).2.2); (case side2 => exact (Kd.R_reads' HO0_3.out).2.1); rintro e w42 ⟨rfl, hb⟩; refine ⟨_, rfl, ?_⟩; have n0_ := Aside0.mk (Kd.R_below (kr HO0_2.out) hb); have n1_ := Aside0.mk (Kd.R_below (kr HO0_3.out) hb); have n2_ := Aside0.mk (blk_below (g := gb272) (o := .cells #[.int .i64 a0_0, .int .i64 a0_1, .slice Ao36 l0_2.length co36, .slice Ao37 l0_3.length co37] 28 (0, 0)) (bk BK272.out) hb); have n3_ := Aside0.mk (blk_below (g := gb273) (o := .cells #[.int .i64 0, .int .i64 0, .slice none 0 0, .slice none 0 0] 28 (0, 0)) (bk BK273.out) hb); have n4_ := Aside0.mk (Kept.below (S := (fun k_ => P0_2_ k_ ∨ P0_3_ k_)) (by repeat (first | (with_reducible first | exact HK.out | apply Kept.alloc | apply Kept.drewN | apply Kept.drew | refine Kept.setCell ?_ (.inr GW272.out) _ | refine Kept.setCell ?_ (.inr GW273.out) _) | exact HK.out)) hb); have n5_ := Aside0.mk (below_step (bl2 HB.out GE272.out GE273.out) hb); clear HO0_2; clear HO0_3; clear BK272; clear BK273; clear HK; clear HB; have HO0_2 := n0_; have HO0_3 := n1_; have BK272 := n2_; have BK273 := n3_; have HK := n4_; have HB := n5_; clear n0_ n1_ n2_ n3_ n4_ n5_; (try clear hb); (try clear hb2); (try clear hk); (try clear hi); have hcz43_0 : w42.cell? ⟨gb272, 0, none⟩ = some (.int .i64 a0_0) := (blk_cell BK272.out 0).trans rfl; have hcz43_1 : w42.cell? ⟨gb272, 1, none⟩ = some (.int .i64 a0_1) := (blk_cell BK272.out 1).trans rfl; have hcz43_2 : w42.cell? ⟨gb272, 2, none⟩ = some (.slice Ao36 l0_2.length co36) := (blk_cell BK272.out 2).trans rfl; have hcz43_3 : w42.cell? ⟨gb272, 3, none⟩ = some (.slice Ao37 l0_3.length co37) := (blk_cell BK272.out 3).trans rfl; have hfz43_0 := blk_frozen BK272.out 0; have hfz43_1 := blk_frozen BK272.out 1; have hfz43_2 := blk_frozen BK272.out 2; have hfz43_3 := blk_frozen BK272.out 3) | ((with_reducible refine gate_callee (f := 43) rfl ?_); refine goesL_ (some 35) rfl rfl Try.func43 (by kernel_rfl) rfl #[.slice Ao36 l0_2.length co36, .string a1] rfl (by (try simp only [List.map_toArray, List.map_cons, List.map_nil]); first | done | rfl | (simp only [List.length_drop, List.length_take]; rfl)) ?_; (with_reducible refine (spec_l12At.calls k _ _ l0_2 a1 t283 _ ?side1 ?side2 A34.out).mono ?_); (case side1 => exact kc (Kd.R_reads' HO0_2.out).2.2); (case side2 => exact (Kd.R_reads' HO0_2.out).2.1); rintro e w44 ⟨rfl, hb⟩; refine ⟨_, rfl, ?_⟩; have n0_ := Aside0.mk (Kd.R_below (kr HO0_2.out) hb); have n1_ := Aside0.mk (Kd.R_below (kr HO0_3.out) hb); have n2_ := Aside0.mk (blk_below (g := gb272) (o := .cells #[.int .i64 a0_0, .int .i64 a0_1, .slice Ao36 l0_2.length co36, .slice Ao37 l0_3.length co37] 28 (0, 0)) (bk BK272.out) hb); have n3_ := Aside0.mk (blk_below (g := gb273) (o := .cells #[.int .i64 0, .int .i64 0, .slice none 0 0, .slice none 0 0] 28 (0, 0)) (bk BK273.out) hb); have n4_ := Aside0.mk (Kept.below (S := (fun k_ => P0_2_ k_ ∨ P0_3_ k_)) (by repeat (first | (with_reducible first | exact HK.out | apply Kept.alloc | apply Kept.drewN | apply Kept.drew | refine Kept.setCell ?_ (.inr GW272.out) _ | refine Kept.setCell ?_ (.inr GW273.out) _) | exact HK.out)) hb); have n5_ := Aside0.mk (below_step (bl2 HB.out GE272.out GE273.out) hb); clear HO0_2; clear HO0_3; clear BK272; clear BK273; clear HK; clear HB; have HO0_2 := n0_; have HO0_3 := n1_; have BK272 := n2_; have BK273 := n3_; have HK := n4_; have HB := n5_; clear n0_ n1_ n2_ n3_ n4_ n5_; (try clear hb); (try clear hb2); (try clear hk); (try clear hi); have hcz45_0 : w44.cell? ⟨gb272, 0, none⟩ = some (.int .i64 a0_0) := (blk_cell BK272.out 0).trans rfl; have hcz45_1 : w44.cell? ⟨gb272, 1, none⟩ = some (.int .i64 a0_1) := (blk_cell BK272.out 1).trans rfl; have hcz45_2 : w44.cell? ⟨gb272, 2, none⟩ = some (.slice Ao36 l0_2.length co36) := (blk_cell BK272.out 2).trans rfl; have hcz45_3 : w44.cell? ⟨gb272, 3, none⟩ = some (.slice Ao37 l0_3.length co37) := (blk_cell BK272.out 3).trans rfl; have hfz45_0 := blk_frozen BK272.out 0; have hfz45_1 := blk_frozen BK272.out 1; have hfz45_2 := blk_frozen BK272.out 2; have hfz45_3 := blk_frozen BK272.out 3; have hcz46_0 : w44.cell? ⟨gb273, 0, none⟩ = some (.int .i64 0) := (blk_cell BK273.out 0).trans rfl; have hcz46_1 : w44.cell? ⟨gb273, 1, none⟩ = some (.int .i64 0) := (blk_cell BK273.out 1).trans rfl; have hcz46_2 : w44.cell? ⟨gb273, 2, none⟩ = some (.slice none 0 0) := (blk_cell BK273.out 2).trans rfl; have hcz46_3 : w44.cell? ⟨gb273, 3, none⟩ = some (.slice none 0 0) := (blk_cell BK273.out 3).trans rfl; have hfz46_0 := blk_frozen BK273.out 0; have hfz46_1 := blk_frozen BK273.out 1; have hfz46_2 := blk_frozen BK273.out 2; have hfz46_3 := blk_frozen BK273.out 3))
   refine bodyPost_ret (results_ctt rfl _ _ gb273 28 #[.int .i64 a0_0, .int .i64 a0_1, .slice Ao36 l0_2.length co36, .slice Ao37 l0_3.length co37] (0, 0) _ rfl (by (with_reducible repeat (first | refine blk_drewN ?_ _ | refine blk_drew ?_ | refine blk_alloc ?_ _)); refine blk_put (cs := #[.int .i64 a0_0, .int .i64 a0_1, .slice Ao36 l0_2.length co36, .slice none 0 0]) ?_ 3 _ rfl; (with_reducible repeat (first | refine blk_drewN ?_ _ | refine blk_drew ?_ | refine blk_alloc ?_ _)); refine blk_put (cs := #[.int .i64 a0_0, .int .i64 a0_1, .slice none 0 0, .slice none 0 0]) ?_ 2 _ rfl; (with_reducible repeat (first | refine blk_drewN ?_ _ | refine blk_drew ?_ | refine blk_alloc ?_ _)); refine blk_put (cs := #[.int .i64 a0_0, .int .i64 0, .slice none 0 0, .slice none 0 0]) ?_ 1 _ rfl; (with_reducible repeat (first | refine blk_drewN ?_ _ | refine blk_drew ?_ | refine blk_alloc ?_ _)); refine blk_put (cs := #[.int .i64 0, .int .i64 0, .slice none 0 0, .slice none 0 0]) ?_ 0 _ rfl; exact bk BK273.out) Try.underlying28 rfl (by kernel_rfl)) rfl ?_
   exact ⟨_, _, by first | rfl | (simp [errW_none, errW_some] <;> rfl) | (simp [*, errW_none, errW_some] <;> rfl), by (with_reducible repeat (first | apply Kd.R_alloc | apply Kd.R_drewN | apply Kd.R_drew)); exact Kd.R_mono (Kd.R_far (p := ⟨gb273, 3, none⟩) (Kd.R_far (p := ⟨gb273, 2, none⟩) (Kd.R_far (p := ⟨gb273, 1, none⟩) (Kd.R_far (p := ⟨gb273, 0, none⟩) (Kd.R_types HO0_2.out BK273.out (by decide)) (fun _ hk => hk.2) (.int .i64 a0_0)) (fun _ hk => hk.2) (.int .i64 a0_1)) (fun _ hk => hk.2) (.slice Ao36 l0_2.length co36)) (fun _ hk => hk.2) (.slice Ao37 l0_3.length co37)) (fun _ hk => ⟨hk.1.1, hk.1.2⟩), by (with_reducible repeat (first | apply Kd.R_alloc | apply Kd.R_drewN | apply Kd.R_drew)); exact Kd.R_mono (Kd.R_far (p := ⟨gb273, 3, none⟩) (Kd.R_far (p := ⟨gb273, 2, none⟩) (Kd.R_far (p := ⟨gb273, 1, none⟩) (Kd.R_far (p := ⟨gb273, 0, none⟩) (Kd.R_types HO0_3.out BK273.out (by decide)) (fun _ hk => hk.2) (.int .i64 a0_0)) (fun _ hk => hk.2) (.int .i64 a0_1)) (fun _ hk => hk.2) (.slice Ao36 l0_2.length co36)) (fun _ hk => hk.2) (.slice Ao37 l0_3.length co37)) (fun _ hk => ⟨hk.1.1, hk.1.2⟩), bl2 HB.out GE272.out GE273.out, by repeat (first | (with_reducible first | exact HK.out | apply Kept.alloc | apply Kept.drewN | apply Kept.drew | refine Kept.setCell ?_ (.inr GW272.out) _ | refine Kept.setCell ?_ (.inr GW273.out) _) | exact HK.out)⟩
  ·rw [if_neg c35] at H
   have c35b0 : decide (t283 < 0) = false := decide_eq_false c35
   clear c35
   by_cases c47 : 0 ≤ t283
   ·rw [if_pos c47] at H
    have c47b0 : decide (0 ≤ t283) = true := decide_eq_true c47
    clear c47
    by_cases c48 : t283 < (l0_2.length : Int)
    ·rw [if_pos c48] at H
     have c48b0 : decide (t283 < (l0_2.length : Int)) = true := decide_eq_true c48
     clear c48
     replace H := Option.bind_eq_some_iff.mp H
     obtain ⟨t286, A490, H⟩ := H
     try dsimp only at H
     have A49 := Aside0.mk A490
     clear A490
     replace H := Option.bind_eq_some_iff.mp H
     obtain ⟨t289, A500, H⟩ := H
     try dsimp only at H
     have A50 := Aside0.mk A500
     clear A500
     replace H := Option.bind_eq_some_iff.mp H
     obtain ⟨⟨t292, t293, t294, t297, t300⟩, A510, H⟩ := H
     try dsimp only at H
     have A51 := Aside0.mk A510
     clear A510
     simp only [Option.some.injEq, Prod.mk.injEq] at H
     obtain ⟨rfl, rfl, rfl, rfl, rfl, rfl⟩ := H
     obtain ⟨Ao52, co52, eo52⟩ := Kd.R_slice HO0_2.out
     subst eo52
     obtain ⟨Ao53, co53, eo53⟩ := Kd.R_slice HO0_3.out
     subst eo53
     go_enter Try.func57, Try.ntmps57
     try go_wp2_with (first | ((with_reducible refine gate_dst (N := 2) rfl ?_); refine box_event ?hg (N := 2) ?hd (cs := #[.int .i64 a0_0, .int .i64 a0_1, .slice Ao52 l0_2.length co52, .slice Ao53 l0_3.length co53]) (t := 28) ?hr ?_; (case hd => rfl); (case hg => rfl); (case hr => first | (go_simp; done) | (go_simp; rfl)); intro gb272 hg w54 hbox hb; have n0_ := Aside0.mk (Kd.R_below (kr HO0_2.out) hb); have n1_ := Aside0.mk (Kd.R_below (kr HO0_3.out) hb); have n2_ := Aside0.mk (Kept.below (S := (fun k_ => P0_2_ k_ ∨ P0_3_ k_)) (by repeat (first | (with_reducible first | exact HK.out | apply Kept.alloc | apply Kept.drewN | apply Kept.drew) | exact HK.out)) hb); have n3_ := Aside0.mk (below_step (bl HB.out) hb); have n4_ := Aside0.mk (hbox); have n5_ := Aside0.mk ((by rw [hg]; exact (by first | exact HK.out.1 | exact (show Kept w _ (fun k_ => P0_2_ k_ ∨ P0_3_ k_) from by repeat (first | (with_reducible first | exact HK.out | apply Kept.alloc | apply Kept.drewN | apply Kept.drew) | exact HK.out)).1) : w.heap.size ≤ gb272)); have n6_ := Aside0.mk ((by rw [hg]; exact (below_size (bl HB.out)) : w0.heap.size ≤ gb272)); clear HO0_2; clear HO0_3; clear HK; clear HB; have HO0_2 := n0_; have HO0_3 := n1_; have HK := n2_; have HB := n3_; have BK272 := n4_; have GW272 := n5_; have GE272 := n6_; clear n0_ n1_ n2_ n3_ n4_ n5_ n6_; clear hb hbox hg) | ((with_reducible refine gate_dst (N := 4) rfl ?_); refine box_event ?hg (N := 4) ?hd (cs := #[.int .i64 0, .int .i64 0, .slice none 0 0, .slice none 0 0]) (t := 28) ?hr ?_; (case hd => rfl); (case hg => rfl); (case hr => first | (go_simp; done) | (go_simp; rfl)); intro gb273 hg w55 hbox hb; have n0_ := Aside0.mk (Kd.R_below (kr HO0_2.out) hb); have n1_ := Aside0.mk (Kd.R_below (kr HO0_3.out) hb); have n2_ := Aside0.mk (blk_below (g := gb272) (o := .cells #[.int .i64 a0_0, .int .i64 a0_1, .slice Ao52 l0_2.length co52, .slice Ao53 l0_3.length co53] 28 (0, 0)) (bk BK272.out) hb); have n3_ := Aside0.mk (Kept.below (S := (fun k_ => P0_2_ k_ ∨ P0_3_ k_)) (by repeat (first | (with_reducible first | exact HK.out | apply Kept.alloc | apply Kept.drewN | apply Kept.drew | refine Kept.setCell ?_ (.inr GW272.out) _) | exact HK.out)) hb); have n4_ := Aside0.mk (below_step (bl1 HB.out GE272.out) hb); have n5_ := Aside0.mk (hbox); have n6_ := Aside0.mk ((by rw [hg]; exact (by first | exact HK.out.1 | exact (show Kept w _ (fun k_ => P0_2_ k_ ∨ P0_3_ k_) from by repeat (first | (with_reducible first | exact HK.out | apply Kept.alloc | apply Kept.drewN | apply Kept.drew | refine Kept.setCell ?_ (.inr GW272.out) _) | exact HK.out)).1) : w.heap.size ≤ gb273)); have n7_ := Aside0.mk ((by rw [hg]; exact (below_size (bl1 HB.out GE272.out)) : w0.heap.size ≤ gb273)); have n8_ := Aside0.mk ((by rw [hg]; exact Nat.ne_of_lt (blk_lt (g := gb272) (o := .cells #[.int .i64 a0_0, .int .i64 a0_1, .slice Ao52 l0_2.length co52, .slice Ao53 l0_3.length co53] 28 (0, 0)) (bk BK272.out)) : gb272 ≠ gb273)); have n9_ := Aside0.mk ((by rw [hg]; exact Nat.ne_of_gt (blk_lt (g := gb272) (o := .cells #[.int .i64 a0_0, .int .i64 a0_1, .slice Ao52 l0_2.length co52, .slice Ao53 l0_3.length co53] 28 (0, 0)) (bk BK272.out)) : gb273 ≠ gb272)); clear HO0_2; clear HO0_3; clear BK272; clear HK; clear HB; have HO0_2 := n0_; have HO0_3 := n1_; have BK272 := n2_; have HK := n3_; have HB := n4_; have BK273 := n5_; have GW273 := n6_; have GE273 := n7_; have NB272_273 := n8_; have NB273_272 := n9_; clear n0_ n1_ n2_ n3_ n4_ n5_ n6_ n7_ n8_ n9_; clear hb hbox hg; have hnb56 := NB272_273.out; have hnc56 := NB273_272.out; have hcz57_0 : w55.cell? ⟨gb272, 0, none⟩ = some (.int .i64 a0_0) := (blk_cell BK272.out 0).trans rfl; have hcz57_1 : w55.cell? ⟨gb272, 1, none⟩ = some (.int .i64 a0_1) := (blk_cell BK272.out 1).trans rfl; have hcz57_2 : w55.cell? ⟨gb272, 2, none⟩ = some (.slice Ao52 l0_2.length co52) := (blk_cell BK272.out 2).trans rfl; have hcz57_3 : w55.cell? ⟨gb272, 3, none⟩ = some (.slice Ao53 l0_3.length co53) := (blk_cell BK272.out 3).trans rfl; have hfz57_0 := blk_frozen BK272.out 0; have hfz57_1 := blk_frozen BK272.out 1; have hfz57_2 := blk_frozen BK272.out 2; have hfz57_3 := blk_frozen BK272.out 3) | ((with_reducible refine gate_callee (f := 43) rfl ?_); refine goesL_ (some 14) rfl rfl Try.func43 (by kernel_rfl) rfl #[.slice Ao53 l0_3.length co53, .string a1] rfl (by (try simp only [List.map_toArray, List.map_cons, List.map_nil]); first | done | rfl | (simp only [List.length_drop, List.length_take]; rfl)) ?_; (with_reducible refine (spec_l12At.calls k _ _ l0_3 a1 t274 _ ?side1 ?side2 A3.out).mono ?_); (case side1 => exact kc (Kd.R_reads' HO0_3.out).2.2); (case side2 => exact (Kd.R_reads' HO0_3.out).2.1); rintro e w58 ⟨rfl, hb⟩; refine ⟨_, rfl, ?_⟩; have n0_ := Aside0.mk (Kd.R_below (kr HO0_2.out) hb); have n1_ := Aside0.mk (Kd.R_below (kr HO0_3.out) hb); have n2_ := Aside0.mk (blk_below (g := gb272) (o := .cells #[.int .i64 a0_0, .int .i64 a0_1, .slice Ao52 l0_2.length co52, .slice Ao53 l0_3.length co53] 28 (0, 0)) (bk BK272.out) hb); have n3_ := Aside0.mk (blk_below (g := gb273) (o := .cells #[.int .i64 0, .int .i64 0, .slice none 0 0, .slice none 0 0] 28 (0, 0)) (bk BK273.out) hb); have n4_ := Aside0.mk (Kept.below (S := (fun k_ => P0_2_ k_ ∨ P0_3_ k_)) (by repeat (first | (with_reducible first | exact HK.out | apply Kept.alloc | apply Kept.drewN | apply Kept.drew | refine Kept.setCell ?_ (.inr GW272.out) _ | refine Kept.setCell ?_ (.inr GW273.out) _) | exact HK.out)) hb); have n5_ := Aside0.mk (below_step (bl2 HB.out GE272.out GE273.out) hb); clear HO0_2; clear HO0_3; clear BK272; clear BK273; clear HK; clear HB; have HO0_2 := n0_; have HO0_3 := n1_; have BK272 := n2_; have BK273 := n3_; have HK := n4_; have HB := n5_; clear n0_ n1_ n2_ n3_ n4_ n5_; (try clear hb); (try clear hb2); (try clear hk); (try clear hi); have hcz59_0 : w58.cell? ⟨gb272, 0, none⟩ = some (.int .i64 a0_0) := (blk_cell BK272.out 0).trans rfl; have hcz59_1 : w58.cell? ⟨gb272, 1, none⟩ = some (.int .i64 a0_1) := (blk_cell BK272.out 1).trans rfl; have hcz59_2 : w58.cell? ⟨gb272, 2, none⟩ = some (.slice Ao52 l0_2.length co52) := (blk_cell BK272.out 2).trans rfl; have hcz59_3 : w58.cell? ⟨gb272, 3, none⟩ = some (.slice Ao53 l0_3.length co53) := (blk_cell BK272.out 3).trans rfl; have hfz59_0 := blk_frozen BK272.out 0; have hfz59_1 := blk_frozen BK272.out 1; have hfz59_2 := blk_frozen BK272.out 2; have hfz59_3 := blk_frozen BK272.out 3) | ((with_reducible refine gate_callee (f := 43) rfl ?_); refine goesL_ (some 35) rfl rfl Try.func43 (by kernel_rfl) rfl #[.slice Ao52 l0_2.length co52, .string a1] rfl (by (try simp only [List.map_toArray, List.map_cons, List.map_nil]); first | done | rfl | (simp only [List.length_drop, List.length_take]; rfl)) ?_; (with_reducible refine (spec_l12At.calls k _ _ l0_2 a1 t283 _ ?side1 ?side2 A34.out).mono ?_); (case side1 => exact kc (Kd.R_reads' HO0_2.out).2.2); (case side2 => exact (Kd.R_reads' HO0_2.out).2.1); rintro e w60 ⟨rfl, hb⟩; refine ⟨_, rfl, ?_⟩; have n0_ := Aside0.mk (Kd.R_below (kr HO0_2.out) hb); have n1_ := Aside0.mk (Kd.R_below (kr HO0_3.out) hb); have n2_ := Aside0.mk (blk_below (g := gb272) (o := .cells #[.int .i64 a0_0, .int .i64 a0_1, .slice Ao52 l0_2.length co52, .slice Ao53 l0_3.length co53] 28 (0, 0)) (bk BK272.out) hb); have n3_ := Aside0.mk (blk_below (g := gb273) (o := .cells #[.int .i64 0, .int .i64 0, .slice none 0 0, .slice none 0 0] 28 (0, 0)) (bk BK273.out) hb); have n4_ := Aside0.mk (Kept.below (S := (fun k_ => P0_2_ k_ ∨ P0_3_ k_)) (by repeat (first | (with_reducible first | exact HK.out | apply Kept.alloc | apply Kept.drewN | apply Kept.drew | refine Kept.setCell ?_ (.inr GW272.out) _ | refine Kept.setCell ?_ (.inr GW273.out) _) | exact HK.out)) hb); have n5_ := Aside0.mk (below_step (bl2 HB.out GE272.out GE273.out) hb); clear HO0_2; clear HO0_3; clear BK272; clear BK273; clear HK; clear HB; have HO0_2 := n0_; have HO0_3 := n1_; have BK272 := n2_; have BK273 := n3_; have HK := n4_; have HB := n5_; clear n0_ n1_ n2_ n3_ n4_ n5_; (try clear hb); (try clear hb2); (try clear hk); (try clear hi); have hcz61_0 : w60.cell? ⟨gb272, 0, none⟩ = some (.int .i64 a0_0) := (blk_cell BK272.out 0).trans rfl; have hcz61_1 : w60.cell? ⟨gb272, 1, none⟩ = some (.int .i64 a0_1) := (blk_cell BK272.out 1).trans rfl; have hcz61_2 : w60.cell? ⟨gb272, 2, none⟩ = some (.slice Ao52 l0_2.length co52) := (blk_cell BK272.out 2).trans rfl; have hcz61_3 : w60.cell? ⟨gb272, 3, none⟩ = some (.slice Ao53 l0_3.length co53) := (blk_cell BK272.out 3).trans rfl; have hfz61_0 := blk_frozen BK272.out 0; have hfz61_1 := blk_frozen BK272.out 1; have hfz61_2 := blk_frozen BK272.out 2; have hfz61_3 := blk_frozen BK272.out 3; have p284 : 0 ≤ (t283 : Int) := of_decide_eq_true (by first | (with_reducible assumption) | assumption); have q284 : t283 < (l0_2.length : Int) := of_decide_eq_true (by first | (with_reducible assumption) | assumption); obtain ⟨ad284, e284, hx284_0, hx284_1⟩ := at_T45 (Kd.R_reads' HO0_2.out).2.2 t283 p284 q284; cases e284; replace p284 := eq_true p284; replace q284 := eq_true q284) | ((with_reducible refine gate_dst (N := 10) rfl ?_); refine box_event ?hg (N := 10) ?hd (cs := #[.string (⟨#[]⟩ : ByteArray), .string (⟨#[]⟩ : ByteArray)]) (t := 45) ?hr ?_; (case hd => rfl); (case hg => rfl); (case hr => first | (go_simp; done) | (go_simp; rfl)); intro gb285 hg w62 hbox hb; have n0_ := Aside0.mk (Kd.R_below (Kd.R_elderB (kr HO0_2.out) gb285 (Nat.le_of_eq hg.symm)) hb); have n1_ := Aside0.mk (Kd.R_below (Kd.R_elderB (kr HO0_3.out) gb285 (Nat.le_of_eq hg.symm)) hb); have n2_ := Aside0.mk (blk_below (g := gb272) (o := .cells #[.int .i64 a0_0, .int .i64 a0_1, .slice (some ad284) l0_2.length co52, .slice Ao53 l0_3.length co53] 28 (0, 0)) (bk BK272.out) hb); have n3_ := Aside0.mk (blk_below (g := gb273) (o := .cells #[.int .i64 0, .int .i64 0, .slice none 0 0, .slice none 0 0] 28 (0, 0)) (bk BK273.out) hb); have n4_ := Aside0.mk (Kept.below (S := (fun k_ => P0_2_ k_ ∨ P0_3_ k_)) (by repeat (first | (with_reducible first | exact HK.out | apply Kept.alloc | apply Kept.drewN | apply Kept.drew | refine Kept.setCell ?_ (.inr GW272.out) _ | refine Kept.setCell ?_ (.inr GW273.out) _) | exact HK.out)) hb); have n5_ := Aside0.mk (below_step (bl2 HB.out GE272.out GE273.out) hb); have n6_ := Aside0.mk (hbox); have n7_ := Aside0.mk ((by rw [hg]; exact (by first | exact HK.out.1 | exact (show Kept w _ (fun k_ => P0_2_ k_ ∨ P0_3_ k_) from by repeat (first | (with_reducible first | exact HK.out | apply Kept.alloc | apply Kept.drewN | apply Kept.drew | refine Kept.setCell ?_ (.inr GW272.out) _ | refine Kept.setCell ?_ (.inr GW273.out) _) | exact HK.out)).1) : w.heap.size ≤ gb285)); have n8_ := Aside0.mk ((by rw [hg]; exact (below_size (bl2 HB.out GE272.out GE273.out)) : w0.heap.size ≤ gb285)); have n9_ := Aside0.mk ((by rw [hg]; exact Nat.ne_of_lt (blk_lt (g := gb272) (o := .cells #[.int .i64 a0_0, .int .i64 a0_1, .slice (some ad284) l0_2.length co52, .slice Ao53 l0_3.length co53] 28 (0, 0)) (bk BK272.out)) : gb272 ≠ gb285)); have n10_ := Aside0.mk ((by rw [hg]; exact Nat.ne_of_gt (blk_lt (g := gb272) (o := .cells #[.int .i64 a0_0, .int .i64 a0_1, .slice (some ad284) l0_2.length co52, .slice Ao53 l0_3.length co53] 28 (0, 0)) (bk BK272.out)) : gb285 ≠ gb272)); have n11_ := Aside0.mk ((by rw [hg]; exact Nat.ne_of_lt (blk_lt (g := gb273) (o := .cells #[.int .i64 0, .int .i64 0, .slice none 0 0, .slice none 0 0] 28 (0, 0)) (bk BK273.out)) : gb273 ≠ gb285)); have n12_ := Aside0.mk ((by rw [hg]; exact Nat.ne_of_gt (blk_lt (g := gb273) (o := .cells #[.int .i64 0, .int .i64 0, .slice none 0 0, .slice none 0 0] 28 (0, 0)) (bk BK273.out)) : gb285 ≠ gb273)); clear HO0_2; clear HO0_3; clear BK272; clear BK273; clear HK; clear HB; have HO0_2 := n0_; have HO0_3 := n1_; have BK272 := n2_; have BK273 := n3_; have HK := n4_; have HB := n5_; have BK285 := n6_; have GW285 := n7_; have GE285 := n8_; have NB272_285 := n9_; have NB285_272 := n10_; have NB273_285 := n11_; have NB285_273 := n12_; clear n0_ n1_ n2_ n3_ n4_ n5_ n6_ n7_ n8_ n9_ n10_ n11_ n12_; clear hb hbox hg; have hnb63 := NB285_272.out; have hnc63 := NB272_285.out; have hnb64 := NB285_273.out; have hnc64 := NB273_285.out; have hcz65_0 : w62.cell? ⟨gb285, 0, none⟩ = some (.string (⟨#[]⟩ : ByteArray)) := (blk_cell BK285.out 0).trans rfl; have hcz65_1 : w62.cell? ⟨gb285, 1, none⟩ = some (.string (⟨#[]⟩ : ByteArray)) := (blk_cell BK285.out 1).trans rfl; have hfz65_0 := blk_frozen BK285.out 0; have hfz65_1 := blk_frozen BK285.out 1; have hcz66_0 : w62.cell? ⟨gb272, 0, none⟩ = some (.int .i64 a0_0) := (blk_cell BK272.out 0).trans rfl; have hcz66_1 : w62.cell? ⟨gb272, 1, none⟩ = some (.int .i64 a0_1) := (blk_cell BK272.out 1).trans rfl; have hcz66_2 : w62.cell? ⟨gb272, 2, none⟩ = some (.slice (some ad284) l0_2.length co52) := (blk_cell BK272.out 2).trans rfl; have hcz66_3 : w62.cell? ⟨gb272, 3, none⟩ = some (.slice Ao53 l0_3.length co53) := (blk_cell BK272.out 3).trans rfl; have hfz66_0 := blk_frozen BK272.out 0; have hfz66_1 := blk_frozen BK272.out 1; have hfz66_2 := blk_frozen BK272.out 2; have hfz66_3 := blk_frozen BK272.out 3) | ((with_reducible refine gate_callee (f := 44) rfl ?_); refine goesL_ (some 47) rfl rfl Try.func44 (by kernel_rfl) rfl #[.slice (some ad284) l0_2.length co52, .int .i64 t283] rfl (by (try simp only [List.map_toArray, List.map_cons, List.map_nil]); first | done | rfl | (simp only [List.length_drop, List.length_take]; rfl)) ?_; (with_reducible refine (spec_l12Without.calls _ _ l0_2 t283 t286 _ ?side1 ?side2 A49.out).mono ?_); (case side1 => refine (Kd.R_reads' (e := 45) (base := w0.heap.size) (ok := fun k_ => ((((P0_2_ k_ ∨ P0_3_ k_) ∨ w.heap.size ≤ k_) ∧ some k_ ≠ (.slice Ao53 l0_3.length co53 : Value).ownBlock) ∧ k_ ≠ gb285)) (n := l0_2.length) (c := co52) ?_).2.2; exact (by (with_reducible repeat (first | apply Kd.R_alloc | apply Kd.R_drewN | apply Kd.R_drew)); exact (Kd.R_mono (Kd.R_far (p := ⟨gb285, 1, none⟩) (Kd.R_far (p := ⟨gb285, 0, none⟩) (Kd.R_mono HO0_2.out (fun k_ hk => (⟨hk, hk.2⟩ : _ ∧ k_ ≠ gb285))) (fun _ hk => hk.2) (.string ((rd_T45 l0_2 t283).f0))) (fun _ hk => hk.2) (.string ((rd_T45 l0_2 t283).f1))) (fun _ h_ => h_.1)))); (case side2 => exact (Kd.R_reads' HO0_2.out).2.1); rintro e w67 ⟨v287, rfl, ho0, hb⟩; refine ⟨_, rfl, ?_⟩; have n0_ := Aside0.mk (Kd.R_elder' (by (with_reducible repeat (first | apply Kd.R_alloc | apply Kd.R_drewN | apply Kd.R_drew)); exact (Kd.R_mono (Kd.R_far (p := ⟨gb285, 1, none⟩) (Kd.R_far (p := ⟨gb285, 0, none⟩) (Kd.R_mono HO0_2.out (fun k_ hk => (⟨hk, hk.2⟩ : _ ∧ k_ ≠ gb285))) (fun _ hk => hk.2) (.string ((rd_T45 l0_2 t283).f0))) (fun _ hk => hk.2) (.string ((rd_T45 l0_2 t283).f1))) (fun _ h_ => h_.1))) (Kd.R_base ho0) hb); have n1_ := Aside0.mk (Kd.R_elder' (by (with_reducible repeat (first | apply Kd.R_alloc | apply Kd.R_drewN | apply Kd.R_drew)); exact (Kd.R_mono (Kd.R_far (p := ⟨gb285, 1, none⟩) (Kd.R_far (p := ⟨gb285, 0, none⟩) (Kd.R_mono HO0_3.out (fun k_ hk => (⟨hk, hk.2⟩ : _ ∧ k_ ≠ gb285))) (fun _ hk => hk.2) (.string ((rd_T45 l0_2 t283).f0))) (fun _ hk => hk.2) (.string ((rd_T45 l0_2 t283).f1))) (fun _ h_ => h_.1))) (Kd.R_base ho0) hb); have n2_ := Aside0.mk (Kd.R_lower (Kd.R_newB (Kd.R_new' (Kd.R_new' (Kd.R_newM (M := fun k_ => ((P0_2_ k_ ∨ P0_3_ k_) ∨ w.heap.size ≤ k_)) ho0 (show Kept w _ (fun k_ => P0_2_ k_ ∨ P0_3_ k_) from by repeat (first | (with_reducible first | exact HK.out | apply Kept.alloc | apply Kept.drewN | apply Kept.drew | refine Kept.setCell ?_ (.inr GW272.out) _ | refine Kept.setCell ?_ (.inr GW273.out) _ | refine Kept.setCell ?_ (.inr GW285.out) _) | exact HK.out)).1 (fun k_ h_ => .inr h_)) (Kd.R_lt (by (with_reducible repeat (first | apply Kd.R_alloc | apply Kd.R_drewN | apply Kd.R_drew)); exact (Kd.R_mono (Kd.R_far (p := ⟨gb285, 1, none⟩) (Kd.R_far (p := ⟨gb285, 0, none⟩) (Kd.R_mono HO0_2.out (fun k_ hk => (⟨hk, hk.2⟩ : _ ∧ k_ ≠ gb285))) (fun _ hk => hk.2) (.string ((rd_T45 l0_2 t283).f0))) (fun _ hk => hk.2) (.string ((rd_T45 l0_2 t283).f1))) (fun _ h_ => h_.1))))) (Kd.R_lt (by (with_reducible repeat (first | apply Kd.R_alloc | apply Kd.R_drewN | apply Kd.R_drew)); exact (Kd.R_mono (Kd.R_far (p := ⟨gb285, 1, none⟩) (Kd.R_far (p := ⟨gb285, 0, none⟩) (Kd.R_mono HO0_3.out (fun k_ hk => (⟨hk, hk.2⟩ : _ ∧ k_ ≠ gb285))) (fun _ hk => hk.2) (.string ((rd_T45 l0_2 t283).f0))) (fun _ hk => hk.2) (.string ((rd_T45 l0_2 t283).f1))) (fun _ h_ => h_.1))))) (g := gb285) (o := .cells #[.string ((rd_T45 l0_2 t283).f0), .string ((rd_T45 l0_2 t283).f1)] 45 (0, 0)) (by (with_reducible repeat (first | refine blk_drewN ?_ _ | refine blk_drew ?_ | refine blk_alloc ?_ _)); refine blk_put (cs := #[.string ((rd_T45 l0_2 t283).f0), .string (⟨#[]⟩ : ByteArray)]) ?_ 1 _ rfl; (with_reducible repeat (first | refine blk_drewN ?_ _ | refine blk_drew ?_ | refine blk_alloc ?_ _)); refine blk_put (cs := #[.string (⟨#[]⟩ : ByteArray), .string (⟨#[]⟩ : ByteArray)]) ?_ 0 _ rfl; exact bk BK285.out)) (below_size (bl3 HB.out GE272.out GE273.out GE285.out))); have n3_ := Aside0.mk (blk_below (g := gb272) (o := .cells #[.int .i64 a0_0, .int .i64 a0_1, .slice (some ad284) l0_2.length co52, .slice Ao53 l0_3.length co53] 28 (0, 0)) (by (with_reducible repeat (first | refine blk_drewN ?_ _ | refine blk_drew ?_ | refine blk_alloc ?_ _)); refine blk_far ?_ NB272_285.out _; (with_reducible repeat (first | refine blk_drewN ?_ _ | refine blk_drew ?_ | refine blk_alloc ?_ _)); refine blk_far ?_ NB272_285.out _; exact bk BK272.out) hb); have n4_ := Aside0.mk (blk_below (g := gb273) (o := .cells #[.int .i64 0, .int .i64 0, .slice none 0 0, .slice none 0 0] 28 (0, 0)) (by (with_reducible repeat (first | refine blk_drewN ?_ _ | refine blk_drew ?_ | refine blk_alloc ?_ _)); refine blk_far ?_ NB273_285.out _; (with_reducible repeat (first | refine blk_drewN ?_ _ | refine blk_drew ?_ | refine blk_alloc ?_ _)); refine blk_far ?_ NB273_285.out _; exact bk BK273.out) hb); have n5_ := Aside0.mk (blk_below (g := gb285) (o := .cells #[.string ((rd_T45 l0_2 t283).f0), .string ((rd_T45 l0_2 t283).f1)] 45 (0, 0)) (by (with_reducible repeat (first | refine blk_drewN ?_ _ | refine blk_drew ?_ | refine blk_alloc ?_ _)); refine blk_put (cs := #[.string ((rd_T45 l0_2 t283).f0), .string (⟨#[]⟩ : ByteArray)]) ?_ 1 _ rfl; (with_reducible repeat (first | refine blk_drewN ?_ _ | refine blk_drew ?_ | refine blk_alloc ?_ _)); refine blk_put (cs := #[.string (⟨#[]⟩ : ByteArray), .string (⟨#[]⟩ : ByteArray)]) ?_ 0 _ rfl; exact bk BK285.out) hb); have n6_ := Aside0.mk (Kept.below (S := (fun k_ => P0_2_ k_ ∨ P0_3_ k_)) (by repeat (first | (with_reducible first | exact HK.out | apply Kept.alloc | apply Kept.drewN | apply Kept.drew | refine Kept.setCell ?_ (.inr GW272.out) _ | refine Kept.setCell ?_ (.inr GW273.out) _ | refine Kept.setCell ?_ (.inr GW285.out) _) | exact HK.out)) hb); have n7_ := Aside0.mk (below_step (bl3 HB.out GE272.out GE273.out GE285.out) hb); clear HO0_2; clear HO0_3; clear BK272; clear BK273; clear BK285; clear HK; clear HB; have HO0_2 := n0_; have HO0_3 := n1_; have HO288 := n2_; have BK272 := n3_; have BK273 := n4_; have BK285 := n5_; have HK := n6_; have HB := n7_; clear n0_ n1_ n2_ n3_ n4_ n5_ n6_ n7_; (try clear hb); (try clear hb2); (try clear hk); (try clear hi); (try clear ho0); obtain ⟨Ao68, co68, eo68⟩ := Kd.R_slice HO288.out; subst eo68; have hcz69_0 : w67.cell? ⟨gb272, 0, none⟩ = some (.int .i64 a0_0) := (blk_cell BK272.out 0).trans rfl; have hcz69_1 : w67.cell? ⟨gb272, 1, none⟩ = some (.int .i64 a0_1) := (blk_cell BK272.out 1).trans rfl; have hcz69_2 : w67.cell? ⟨gb272, 2, none⟩ = some (.slice (some ad284) l0_2.length co52) := (blk_cell BK272.out 2).trans rfl; have hcz69_3 : w67.cell? ⟨gb272, 3, none⟩ = some (.slice Ao53 l0_3.length co53) := (blk_cell BK272.out 3).trans rfl; have hfz69_0 := blk_frozen BK272.out 0; have hfz69_1 := blk_frozen BK272.out 1; have hfz69_2 := blk_frozen BK272.out 2; have hfz69_3 := blk_frozen BK272.out 3; have hcz70_0 : w67.cell? ⟨gb285, 0, none⟩ = some (.string ((rd_T45 l0_2 t283).f0)) := (blk_cell BK285.out 0).trans rfl; have hcz70_1 : w67.cell? ⟨gb285, 1, none⟩ = some (.string ((rd_T45 l0_2 t283).f1)) := (blk_cell BK285.out 1).trans rfl; have hfz70_0 := blk_frozen BK285.out 0; have hfz70_1 := blk_frozen BK285.out 1) | ((with_reducible refine gate_callee (f := 80) rfl ?_); refine goesL_ (some 52) rfl rfl Try.func80 (by kernel_rfl) rfl #[.slice Ao53 l0_3.length co53, .agg #[.string ((rd_T45 l0_2 t283).f0), .string ((rd_T45 l0_2 t283).f1)]] rfl (by (try simp only [List.map_toArray, List.map_cons, List.map_nil]); first | done | rfl | (simp only [List.length_drop, List.length_take]; rfl)) ?_; (with_reducible refine (spec_l12Ahead.calls _ _ l0_3 ((rd_T45 l0_2 t283).f0) ((rd_T45 l0_2 t283).f1) t289 _ ?side1 ?side2 A50.out).mono ?_); (case side1 => refine (Kd.R_reads' (e := 45) (base := w0.heap.size) (ok := fun k_ => (((((P0_2_ k_ ∨ P0_3_ k_) ∨ w.heap.size ≤ k_) ∧ some k_ ≠ (.slice (some ad284) l0_2.length co52 : Value).ownBlock) ∧ k_ ≠ gb285) ∧ some k_ ≠ (.slice Ao68 t286.length co68 : Value).ownBlock)) (n := l0_3.length) (c := co53) ?_).2.2; exact (by (with_reducible repeat (first | apply Kd.R_alloc | apply Kd.R_drewN | apply Kd.R_drew)); exact (Kd.R_mono (Kd.R_far (p := ⟨gb272, 2, none⟩) (Kd.R_types HO0_3.out BK272.out (by decide)) (fun _ hk => hk.2) (.slice Ao68 t286.length co68)) (fun _ h_ => h_.1)))); (case side2 => exact (Kd.R_reads' HO0_3.out).2.1); rintro e w71 ⟨v290, rfl, ho0, hb⟩; refine ⟨_, rfl, ?_⟩; have n0_ := Aside0.mk (Kd.R_elder' (by (with_reducible repeat (first | apply Kd.R_alloc | apply Kd.R_drewN | apply Kd.R_drew)); exact (Kd.R_mono (Kd.R_far (p := ⟨gb272, 2, none⟩) (Kd.R_types HO0_2.out BK272.out (by decide)) (fun _ hk => hk.2) (.slice Ao68 t286.length co68)) (fun _ h_ => h_.1))) (Kd.R_base ho0) hb); have n1_ := Aside0.mk (Kd.R_elder' (by (with_reducible repeat (first | apply Kd.R_alloc | apply Kd.R_drewN | apply Kd.R_drew)); exact (Kd.R_mono (Kd.R_far (p := ⟨gb272, 2, none⟩) (Kd.R_types HO0_3.out BK272.out (by decide)) (fun _ hk => hk.2) (.slice Ao68 t286.length co68)) (fun _ h_ => h_.1))) (Kd.R_base ho0) hb); have n2_ := Aside0.mk (Kd.R_elder' (by (with_reducible repeat (first | apply Kd.R_alloc | apply Kd.R_drewN | apply Kd.R_drew)); exact (Kd.R_mono (Kd.R_far (p := ⟨gb272, 2, none⟩) (Kd.R_types HO288.out BK272.out (by decide)) (fun _ hk => hk.2) (.slice Ao68 t286.length co68)) (fun _ h_ => h_.1))) (Kd.R_base ho0) hb); have n3_ := Aside0.mk (Kd.R_lower (Kd.R_newB (Kd.R_new' (Kd.R_new' (Kd.R_new' (Kd.R_newM (M := fun k_ => ((P0_2_ k_ ∨ P0_3_ k_) ∨ w.heap.size ≤ k_)) ho0 (show Kept w _ (fun k_ => P0_2_ k_ ∨ P0_3_ k_) from by repeat (first | (with_reducible first | exact HK.out | apply Kept.alloc | apply Kept.drewN | apply Kept.drew | refine Kept.setCell ?_ (.inr GW272.out) _ | refine Kept.setCell ?_ (.inr GW273.out) _ | refine Kept.setCell ?_ (.inr GW285.out) _) | exact HK.out)).1 (fun k_ h_ => .inr h_)) (Kd.R_lt (by (with_reducible repeat (first | apply Kd.R_alloc | apply Kd.R_drewN | apply Kd.R_drew)); exact (Kd.R_mono (Kd.R_far (p := ⟨gb272, 2, none⟩) (Kd.R_types HO0_2.out BK272.out (by decide)) (fun _ hk => hk.2) (.slice Ao68 t286.length co68)) (fun _ h_ => h_.1))))) (Kd.R_lt (by (with_reducible repeat (first | apply Kd.R_alloc | apply Kd.R_drewN | apply Kd.R_drew)); exact (Kd.R_mono (Kd.R_far (p := ⟨gb272, 2, none⟩) (Kd.R_types HO0_3.out BK272.out (by decide)) (fun _ hk => hk.2) (.slice Ao68 t286.length co68)) (fun _ h_ => h_.1))))) (Kd.R_lt (by (with_reducible repeat (first | apply Kd.R_alloc | apply Kd.R_drewN | apply Kd.R_drew)); exact (Kd.R_mono (Kd.R_far (p := ⟨gb272, 2, none⟩) (Kd.R_types HO288.out BK272.out (by decide)) (fun _ hk => hk.2) (.slice Ao68 t286.length co68)) (fun _ h_ => h_.1))))) (g := gb285) (o := .cells #[.string ((rd_T45 l0_2 t283).f0), .string ((rd_T45 l0_2 t283).f1)] 45 (0, 0)) (by (with_reducible repeat (first | refine blk_drewN ?_ _ | refine blk_drew ?_ | refine blk_alloc ?_ _)); refine blk_far ?_ NB285_272.out _; exact bk BK285.out)) (below_size (bl3 HB.out GE272.out GE273.out GE285.out))); have n4_ := Aside0.mk (blk_below (g := gb272) (o := .cells #[.int .i64 a0_0, .int .i64 a0_1, .slice Ao68 t286.length co68, .slice Ao53 l0_3.length co53] 28 (0, 0)) (by (with_reducible repeat (first | refine blk_drewN ?_ _ | refine blk_drew ?_ | refine blk_alloc ?_ _)); refine blk_put (cs := #[.int .i64 a0_0, .int .i64 a0_1, .slice (some ad284) l0_2.length co52, .slice Ao53 l0_3.length co53]) ?_ 2 _ rfl; exact bk BK272.out) hb); have n5_ := Aside0.mk (blk_below (g := gb273) (o := .cells #[.int .i64 0, .int .i64 0, .slice none 0 0, .slice none 0 0] 28 (0, 0)) (by (with_reducible repeat (first | refine blk_drewN ?_ _ | refine blk_drew ?_ | refine blk_alloc ?_ _)); refine blk_far ?_ NB273_272.out _; exact bk BK273.out) hb); have n6_ := Aside0.mk (blk_below (g := gb285) (o := .cells #[.string ((rd_T45 l0_2 t283).f0), .string ((rd_T45 l0_2 t283).f1)] 45 (0, 0)) (by (with_reducible repeat (first | refine blk_drewN ?_ _ | refine blk_drew ?_ | refine blk_alloc ?_ _)); refine blk_far ?_ NB285_272.out _; exact bk BK285.out) hb); have n7_ := Aside0.mk (Kept.below (S := (fun k_ => P0_2_ k_ ∨ P0_3_ k_)) (by repeat (first | (with_reducible first | exact HK.out | apply Kept.alloc | apply Kept.drewN | apply Kept.drew | refine Kept.setCell ?_ (.inr GW272.out) _ | refine Kept.setCell ?_ (.inr GW273.out) _ | refine Kept.setCell ?_ (.inr GW285.out) _) | exact HK.out)) hb); have n8_ := Aside0.mk (below_step (bl3 HB.out GE272.out GE273.out GE285.out) hb); clear HO0_2; clear HO0_3; clear HO288; clear BK272; clear BK273; clear BK285; clear HK; clear HB; have HO0_2 := n0_; have HO0_3 := n1_; have HO288 := n2_; have HO291 := n3_; have BK272 := n4_; have BK273 := n5_; have BK285 := n6_; have HK := n7_; have HB := n8_; clear n0_ n1_ n2_ n3_ n4_ n5_ n6_ n7_ n8_; (try clear hb); (try clear hb2); (try clear hk); (try clear hi); (try clear ho0); obtain ⟨Ao72, co72, eo72⟩ := Kd.R_slice HO291.out; subst eo72; have hcz73_0 : w71.cell? ⟨gb272, 0, none⟩ = some (.int .i64 a0_0) := (blk_cell BK272.out 0).trans rfl; have hcz73_1 : w71.cell? ⟨gb272, 1, none⟩ = some (.int .i64 a0_1) := (blk_cell BK272.out 1).trans rfl; have hcz73_2 : w71.cell? ⟨gb272, 2, none⟩ = some (.slice Ao68 t286.length co68) := (blk_cell BK272.out 2).trans rfl; have hcz73_3 : w71.cell? ⟨gb272, 3, none⟩ = some (.slice Ao53 l0_3.length co53) := (blk_cell BK272.out 3).trans rfl; have hfz73_0 := blk_frozen BK272.out 0; have hfz73_1 := blk_frozen BK272.out 1; have hfz73_2 := blk_frozen BK272.out 2; have hfz73_3 := blk_frozen BK272.out 3) | ((with_reducible refine gate_store (t := 26) (p := 53) rfl ?_); refine store_event (t := 26) (p := 53) (v := ?vo_w74) (w1 := (w71.setCell ⟨gb272, 3, none⟩ (.slice Ao72 t289.length co72))) ?hg ?ho ?hn ?hr ?_; (case ho => rfl); (case hg => rfl); (case hn => rfl); (case hr => first | (go_simp; done) | (go_simp; rfl)); intro w74 hw; have n0_ : Aside0 (Kd.R k45 45 w74 w0.heap.size (fun k_ => ((P0_2_ k_ ∨ P0_3_ k_) ∨ w.heap.size ≤ k_) ∧ some k_ ≠ (.slice Ao53 l0_3.length co53 : Value).ownBlock ∧ some k_ ≠ (.slice Ao68 t286.length co68 : Value).ownBlock ∧ some k_ ≠ (.slice Ao72 t289.length co72 : Value).ownBlock ∧ k_ ≠ gb285) (.slice (some ad284) l0_2.length co52) l0_2) := ⟨(by rw [hw]; exact (by (with_reducible repeat (first | apply Kd.R_alloc | apply Kd.R_drewN | apply Kd.R_drew)); exact Kd.R_mono (Kd.R_far (p := ⟨gb272, 3, none⟩) (Kd.R_types HO0_2.out BK272.out (by decide)) (fun _ hk => hk.2) (.slice Ao72 t289.length co72)) (fun _ hk => ⟨hk.1.1.1.1.1, ⟨hk.1.1.1.1.2, ⟨hk.1.1.2, ⟨hk.1.2, hk.1.1.1.2⟩⟩⟩⟩)))⟩; have n1_ : Aside0 (Kd.R k45 45 w74 w0.heap.size (fun k_ => ((P0_2_ k_ ∨ P0_3_ k_) ∨ w.heap.size ≤ k_) ∧ some k_ ≠ (.slice (some ad284) l0_2.length co52 : Value).ownBlock ∧ some k_ ≠ (.slice Ao68 t286.length co68 : Value).ownBlock ∧ some k_ ≠ (.slice Ao72 t289.length co72 : Value).ownBlock ∧ k_ ≠ gb285) (.slice Ao53 l0_3.length co53) l0_3) := ⟨(by rw [hw]; exact (by (with_reducible repeat (first | apply Kd.R_alloc | apply Kd.R_drewN | apply Kd.R_drew)); exact Kd.R_mono (Kd.R_far (p := ⟨gb272, 3, none⟩) (Kd.R_types HO0_3.out BK272.out (by decide)) (fun _ hk => hk.2) (.slice Ao72 t289.length co72)) (fun _ hk => ⟨hk.1.1.1.1.1, ⟨hk.1.1.1.1.2, ⟨hk.1.1.2, ⟨hk.1.2, hk.1.1.1.2⟩⟩⟩⟩)))⟩; have n2_ : Aside0 (Kd.R k45 45 w74 w0.heap.size (fun k_ => ((P0_2_ k_ ∨ P0_3_ k_) ∨ w.heap.size ≤ k_) ∧ some k_ ≠ (.slice (some ad284) l0_2.length co52 : Value).ownBlock ∧ some k_ ≠ (.slice Ao53 l0_3.length co53 : Value).ownBlock ∧ some k_ ≠ (.slice Ao72 t289.length co72 : Value).ownBlock ∧ k_ ≠ gb285) (.slice Ao68 t286.length co68) t286) := ⟨(by rw [hw]; exact (by (with_reducible repeat (first | apply Kd.R_alloc | apply Kd.R_drewN | apply Kd.R_drew)); exact Kd.R_mono (Kd.R_far (p := ⟨gb272, 3, none⟩) (Kd.R_types HO288.out BK272.out (by decide)) (fun _ hk => hk.2) (.slice Ao72 t289.length co72)) (fun _ hk => ⟨hk.1.1.1.1.1.1, ⟨hk.1.1.1.1.2, ⟨hk.1.1.1.2, ⟨hk.1.2, hk.1.1.2⟩⟩⟩⟩)))⟩; have n3_ : Aside0 (Kd.R k45 45 w74 w0.heap.size (fun k_ => ((P0_2_ k_ ∨ P0_3_ k_) ∨ w.heap.size ≤ k_) ∧ some k_ ≠ (.slice (some ad284) l0_2.length co52 : Value).ownBlock ∧ some k_ ≠ (.slice Ao53 l0_3.length co53 : Value).ownBlock ∧ some k_ ≠ (.slice Ao68 t286.length co68 : Value).ownBlock ∧ k_ ≠ gb285) (.slice Ao72 t289.length co72) t289) := ⟨(by rw [hw]; exact (by (with_reducible repeat (first | apply Kd.R_alloc | apply Kd.R_drewN | apply Kd.R_drew)); exact Kd.R_mono (Kd.R_far (p := ⟨gb272, 3, none⟩) (Kd.R_types HO291.out BK272.out (by decide)) (fun _ hk => hk.2) (.slice Ao72 t289.length co72)) (fun _ hk => ⟨hk.1.1.1.1.1.1, ⟨hk.1.1.1.1.2, ⟨hk.1.1.1.2, ⟨hk.1.1.2, hk.1.2⟩⟩⟩⟩)))⟩; have n4_ : Aside0 (w74.heap[gb272]? = some (.cells #[.int .i64 a0_0, .int .i64 a0_1, .slice Ao68 t286.length co68, .slice Ao72 t289.length co72] 28 (0, 0))) := ⟨(by rw [hw]; exact (by (with_reducible repeat (first | refine blk_drewN ?_ _ | refine blk_drew ?_ | refine blk_alloc ?_ _)); refine blk_put (cs := #[.int .i64 a0_0, .int .i64 a0_1, .slice Ao68 t286.length co68, .slice Ao53 l0_3.length co53]) ?_ 3 _ rfl; exact bk BK272.out))⟩; have n5_ : Aside0 (w74.heap[gb273]? = some (.cells #[.int .i64 0, .int .i64 0, .slice none 0 0, .slice none 0 0] 28 (0, 0))) := ⟨(by rw [hw]; exact (by (with_reducible repeat (first | refine blk_drewN ?_ _ | refine blk_drew ?_ | refine blk_alloc ?_ _)); refine blk_far ?_ NB273_272.out _; exact bk BK273.out))⟩; have n6_ : Aside0 (w74.heap[gb285]? = some (.cells #[.string ((rd_T45 l0_2 t283).f0), .string ((rd_T45 l0_2 t283).f1)] 45 (0, 0))) := ⟨(by rw [hw]; exact (by (with_reducible repeat (first | refine blk_drewN ?_ _ | refine blk_drew ?_ | refine blk_alloc ?_ _)); refine blk_far ?_ NB285_272.out _; exact bk BK285.out))⟩; have n7_ : Aside0 (Kept w w74 (fun k_ => P0_2_ k_ ∨ P0_3_ k_)) := ⟨(by rw [hw]; exact (by repeat (first | (with_reducible first | exact HK.out | apply Kept.alloc | apply Kept.drewN | apply Kept.drew | refine Kept.setCell ?_ (.inr GW272.out) _ | refine Kept.setCell ?_ (.inr GW273.out) _ | refine Kept.setCell ?_ (.inr GW285.out) _) | exact HK.out)))⟩; have n8_ : Aside0 (Below w0.heap.size w0 w74) := ⟨(by rw [hw]; exact (bl3 HB.out GE272.out GE273.out GE285.out))⟩; clear hw; clear HO0_2; clear HO0_3; clear HO288; clear HO291; clear BK272; clear BK273; clear BK285; clear HK; clear HB; have HO0_2 := n0_; have HO0_3 := n1_; have HO288 := n2_; have HO291 := n3_; have BK272 := n4_; have BK273 := n5_; have BK285 := n6_; have HK := n7_; have HB := n8_; clear n0_ n1_ n2_ n3_ n4_ n5_ n6_ n7_ n8_; have hcz75_0 : w74.cell? ⟨gb272, 0, none⟩ = some (.int .i64 a0_0) := (blk_cell BK272.out 0).trans rfl; have hcz75_1 : w74.cell? ⟨gb272, 1, none⟩ = some (.int .i64 a0_1) := (blk_cell BK272.out 1).trans rfl; have hcz75_2 : w74.cell? ⟨gb272, 2, none⟩ = some (.slice Ao68 t286.length co68) := (blk_cell BK272.out 2).trans rfl; have hcz75_3 : w74.cell? ⟨gb272, 3, none⟩ = some (.slice Ao72 t289.length co72) := (blk_cell BK272.out 3).trans rfl; have hfz75_0 := blk_frozen BK272.out 0; have hfz75_1 := blk_frozen BK272.out 1; have hfz75_2 := blk_frozen BK272.out 2; have hfz75_3 := blk_frozen BK272.out 3) | ((with_reducible refine gate_callee (f := 81) rfl ?_); refine goesL_ (some 56) rfl rfl Try.func81 (by kernel_rfl) rfl #[.agg #[.int .i64 a0_0, .int .i64 a0_1, .slice Ao68 t286.length co68, .slice Ao72 t289.length co72]] rfl (by (try simp only [List.map_toArray, List.map_cons, List.map_nil]); first | done | rfl | (simp only [List.length_drop, List.length_take]; rfl)) ?_; (with_reducible refine (spec_l12Fit.calls k a0_0 a0_1 (fun k_ => some k_ = (.slice Ao68 t286.length co68 : Value).ownBlock) _ _ t286 (fun k_ => some k_ = (.slice Ao72 t289.length co72 : Value).ownBlock) _ _ t289 t292 t293 t294 t297 t300 _ ?side1 ?side2 A51.out).mono ?_); (case side1 => exact Kd.R_V (Kd.R_tight rfl (Kd.R_types (Kd.R_types (HO288.out) BK272.out (by decide)) BK273.out (by decide)))); (case side2 => exact Kd.R_V (Kd.R_tight rfl (Kd.R_types (Kd.R_types (HO291.out) BK272.out (by decide)) BK273.out (by decide)))); rintro e w76 ⟨v295, v298, v301, rfl, ho0, ho1, ho2, hb⟩; refine ⟨_, rfl, ?_⟩; have n0_ := Aside0.mk (Kd.R_mono (Kd.R_told (Kd.R_told (Kd.R_told (Kd.R_old (kr HO0_2.out) hb) (Kd.R_base ho0)) (Kd.R_base ho1)) (Kd.R_base ho2)) (fun _ h_ => h_.1)); have n1_ := Aside0.mk (Kd.R_mono (Kd.R_told (Kd.R_told (Kd.R_told (Kd.R_old (kr HO0_3.out) hb) (Kd.R_base ho0)) (Kd.R_base ho1)) (Kd.R_base ho2)) (fun _ h_ => h_.1)); have n2_ := Aside0.mk (Kd.R_mono (Kd.R_told (Kd.R_told (Kd.R_told (Kd.R_old (kr HO288.out) hb) (Kd.R_base ho0)) (Kd.R_base ho1)) (Kd.R_base ho2)) (fun _ h_ => h_.1)); have n3_ := Aside0.mk (Kd.R_mono (Kd.R_told (Kd.R_told (Kd.R_told (Kd.R_old (kr HO291.out) hb) (Kd.R_base ho0)) (Kd.R_base ho1)) (Kd.R_base ho2)) (fun _ h_ => h_.1)); have n4_ := Aside0.mk (Kd.R_lower (Kd.R_newB (Kd.R_new' (Kd.R_new' (Kd.R_new' (Kd.R_new' (Kd.R_newM (M := fun k_ => ((P0_2_ k_ ∨ P0_3_ k_) ∨ w.heap.size ≤ k_)) (Kd.R_mono (ok' := fun k_ => some k_ ≠ (v298 : Value).ownBlock ∧ some k_ ≠ (v301 : Value).ownBlock) ho0 (fun _ hk_ => hk_.2)) (by first | exact HK.out.1 | exact (show Kept w _ (fun k_ => P0_2_ k_ ∨ P0_3_ k_) from by repeat (first | (with_reducible first | exact HK.out | apply Kept.alloc | apply Kept.drewN | apply Kept.drew | refine Kept.setCell ?_ (.inr GW272.out) _ | refine Kept.setCell ?_ (.inr GW273.out) _ | refine Kept.setCell ?_ (.inr GW285.out) _) | exact HK.out)).1) (fun k_ h_ => .inr h_)) (Kd.R_lt (kr HO0_2.out))) (Kd.R_lt (kr HO0_3.out))) (Kd.R_lt (kr HO288.out))) (Kd.R_lt (kr HO291.out))) (g := gb285) (o := .cells #[.string ((rd_T45 l0_2 t283).f0), .string ((rd_T45 l0_2 t283).f1)] 45 (0, 0)) (bk BK285.out)) (below_size (bl3 HB.out GE272.out GE273.out GE285.out))); have n5_ := Aside0.mk (Kd.R_lower (Kd.R_newB (Kd.R_new' (Kd.R_new' (Kd.R_new' (Kd.R_new' (Kd.R_newM (M := fun k_ => ((P0_2_ k_ ∨ P0_3_ k_) ∨ w.heap.size ≤ k_)) (Kd.R_mono (ok' := fun k_ => some k_ ≠ (v295 : Value).ownBlock ∧ some k_ ≠ (v301 : Value).ownBlock) ho1 (fun _ hk_ => hk_.2)) (by first | exact HK.out.1 | exact (show Kept w _ (fun k_ => P0_2_ k_ ∨ P0_3_ k_) from by repeat (first | (with_reducible first | exact HK.out | apply Kept.alloc | apply Kept.drewN | apply Kept.drew | refine Kept.setCell ?_ (.inr GW272.out) _ | refine Kept.setCell ?_ (.inr GW273.out) _ | refine Kept.setCell ?_ (.inr GW285.out) _) | exact HK.out)).1) (fun k_ h_ => .inr h_)) (Kd.R_lt (kr HO0_2.out))) (Kd.R_lt (kr HO0_3.out))) (Kd.R_lt (kr HO288.out))) (Kd.R_lt (kr HO291.out))) (g := gb285) (o := .cells #[.string ((rd_T45 l0_2 t283).f0), .string ((rd_T45 l0_2 t283).f1)] 45 (0, 0)) (bk BK285.out)) (below_size (bl3 HB.out GE272.out GE273.out GE285.out))); have n6_ := Aside0.mk (Kd.R_lower (Kd.R_newB (Kd.R_new' (Kd.R_new' (Kd.R_new' (Kd.R_new' (Kd.R_newM (M := fun k_ => ((P0_2_ k_ ∨ P0_3_ k_) ∨ w.heap.size ≤ k_)) (Kd.R_mono (ok' := fun k_ => some k_ ≠ (v295 : Value).ownBlock ∧ some k_ ≠ (v298 : Value).ownBlock) ho2 (fun _ hk_ => hk_.2)) (by first | exact HK.out.1 | exact (show Kept w _ (fun k_ => P0_2_ k_ ∨ P0_3_ k_) from by repeat (first | (with_reducible first | exact HK.out | apply Kept.alloc | apply Kept.drewN | apply Kept.drew | refine Kept.setCell ?_ (.inr GW272.out) _ | refine Kept.setCell ?_ (.inr GW273.out) _ | refine Kept.setCell ?_ (.inr GW285.out) _) | exact HK.out)).1) (fun k_ h_ => .inr h_)) (Kd.R_lt (kr HO0_2.out))) (Kd.R_lt (kr HO0_3.out))) (Kd.R_lt (kr HO288.out))) (Kd.R_lt (kr HO291.out))) (g := gb285) (o := .cells #[.string ((rd_T45 l0_2 t283).f0), .string ((rd_T45 l0_2 t283).f1)] 45 (0, 0)) (bk BK285.out)) (below_size (bl3 HB.out GE272.out GE273.out GE285.out))); have n7_ := Aside0.mk (blk_below (g := gb272) (o := .cells #[.int .i64 a0_0, .int .i64 a0_1, .slice Ao68 t286.length co68, .slice Ao72 t289.length co72] 28 (0, 0)) (bk BK272.out) hb); have n8_ := Aside0.mk (blk_below (g := gb273) (o := .cells #[.int .i64 0, .int .i64 0, .slice none 0 0, .slice none 0 0] 28 (0, 0)) (bk BK273.out) hb); have n9_ := Aside0.mk (blk_below (g := gb285) (o := .cells #[.string ((rd_T45 l0_2 t283).f0), .string ((rd_T45 l0_2 t283).f1)] 45 (0, 0)) (bk BK285.out) hb); have n10_ := Aside0.mk (Kept.below (S := (fun k_ => P0_2_ k_ ∨ P0_3_ k_)) (by repeat (first | (with_reducible first | exact HK.out | apply Kept.alloc | apply Kept.drewN | apply Kept.drew | refine Kept.setCell ?_ (.inr GW272.out) _ | refine Kept.setCell ?_ (.inr GW273.out) _ | refine Kept.setCell ?_ (.inr GW285.out) _) | exact HK.out)) hb); have n11_ := Aside0.mk (below_step (bl3 HB.out GE272.out GE273.out GE285.out) hb); clear HO0_2; clear HO0_3; clear HO288; clear HO291; clear BK272; clear BK273; clear BK285; clear HK; clear HB; have HO0_2 := n0_; have HO0_3 := n1_; have HO288 := n2_; have HO291 := n3_; have HO296 := n4_; have HO299 := n5_; have HO302 := n6_; have BK272 := n7_; have BK273 := n8_; have BK285 := n9_; have HK := n10_; have HB := n11_; clear n0_ n1_ n2_ n3_ n4_ n5_ n6_ n7_ n8_ n9_ n10_ n11_; (try clear hb); (try clear hb2); (try clear hk); (try clear hi); (try clear ho0); (try clear ho1); (try clear ho2); have hcz77_0 : w76.cell? ⟨gb272, 0, none⟩ = some (.int .i64 a0_0) := (blk_cell BK272.out 0).trans rfl; have hcz77_1 : w76.cell? ⟨gb272, 1, none⟩ = some (.int .i64 a0_1) := (blk_cell BK272.out 1).trans rfl; have hcz77_2 : w76.cell? ⟨gb272, 2, none⟩ = some (.slice Ao68 t286.length co68) := (blk_cell BK272.out 2).trans rfl; have hcz77_3 : w76.cell? ⟨gb272, 3, none⟩ = some (.slice Ao72 t289.length co72) := (blk_cell BK272.out 3).trans rfl; have hfz77_0 := blk_frozen BK272.out 0; have hfz77_1 := blk_frozen BK272.out 1; have hfz77_2 := blk_frozen BK272.out 2; have hfz77_3 := blk_frozen BK272.out 3; obtain ⟨Ao78, co78, eo78⟩ := Kd.R_slice HO296.out; subst eo78; obtain ⟨Ao79, co79, eo79⟩ := Kd.R_slice HO299.out; subst eo79))
     have n0_ : Aside0 (Kd.R k45 45 ((((w76.setCell ⟨gb272, 0, none⟩ (.int .i64 t292)).setCell ⟨gb272, 1, none⟩ (.int .i64 t293)).setCell ⟨gb272, 2, none⟩ (.slice Ao78 t294.length co78)).setCell ⟨gb272, 3, none⟩ (.slice Ao79 t297.length co79)) w0.heap.size (fun k_ => ((P0_2_ k_ ∨ P0_3_ k_) ∨ w.heap.size ≤ k_) ∧ some k_ ≠ (.slice Ao53 l0_3.length co53 : Value).ownBlock ∧ some k_ ≠ (.slice Ao68 t286.length co68 : Value).ownBlock ∧ some k_ ≠ (.slice Ao72 t289.length co72 : Value).ownBlock ∧ some k_ ≠ (.slice Ao78 t294.length co78 : Value).ownBlock ∧ some k_ ≠ (.slice Ao79 t297.length co79 : Value).ownBlock ∧ some k_ ≠ (v301 : Value).ownBlock ∧ k_ ≠ gb285) (.slice (some ad284) l0_2.length co52) l0_2) := ⟨by (with_reducible repeat (first | apply Kd.R_alloc | apply Kd.R_drewN | apply Kd.R_drew)); exact Kd.R_mono (Kd.R_far (p := ⟨gb272, 3, none⟩) (Kd.R_far (p := ⟨gb272, 2, none⟩) (Kd.R_far (p := ⟨gb272, 1, none⟩) (Kd.R_far (p := ⟨gb272, 0, none⟩) (Kd.R_types HO0_2.out BK272.out (by decide)) (fun _ hk => hk.2) (.int .i64 t292)) (fun _ hk => hk.2) (.int .i64 t293)) (fun _ hk => hk.2) (.slice Ao78 t294.length co78)) (fun _ hk => hk.2) (.slice Ao79 t297.length co79)) (fun _ hk => ⟨hk.1.1.1.1.1, ⟨hk.1.1.1.1.2.1, ⟨hk.1.1.1.1.2.2.1, ⟨hk.1.1.1.1.2.2.2.1, ⟨hk.1.1.1.2, ⟨hk.1.1.2, ⟨hk.1.2, hk.1.1.1.1.2.2.2.2⟩⟩⟩⟩⟩⟩⟩)⟩
     have n1_ : Aside0 (Kd.R k45 45 ((((w76.setCell ⟨gb272, 0, none⟩ (.int .i64 t292)).setCell ⟨gb272, 1, none⟩ (.int .i64 t293)).setCell ⟨gb272, 2, none⟩ (.slice Ao78 t294.length co78)).setCell ⟨gb272, 3, none⟩ (.slice Ao79 t297.length co79)) w0.heap.size (fun k_ => ((P0_2_ k_ ∨ P0_3_ k_) ∨ w.heap.size ≤ k_) ∧ some k_ ≠ (.slice (some ad284) l0_2.length co52 : Value).ownBlock ∧ some k_ ≠ (.slice Ao68 t286.length co68 : Value).ownBlock ∧ some k_ ≠ (.slice Ao72 t289.length co72 : Value).ownBlock ∧ some k_ ≠ (.slice Ao78 t294.length co78 : Value).ownBlock ∧ some k_ ≠ (.slice Ao79 t297.length co79 : Value).ownBlock ∧ some k_ ≠ (v301 : Value).ownBlock ∧ k_ ≠ gb285) (.slice Ao53 l0_3.length co53) l0_3) := ⟨by (with_reducible repeat (first | apply Kd.R_alloc | apply Kd.R_drewN | apply Kd.R_drew)); exact Kd.R_mono (Kd.R_far (p := ⟨gb272, 3, none⟩) (Kd.R_far (p := ⟨gb272, 2, none⟩) (Kd.R_far (p := ⟨gb272, 1, none⟩) (Kd.R_far (p := ⟨gb272, 0, none⟩) (Kd.R_types HO0_3.out BK272.out (by decide)) (fun _ hk => hk.2) (.int .i64 t292)) (fun _ hk => hk.2) (.int .i64 t293)) (fun _ hk => hk.2) (.slice Ao78 t294.length co78)) (fun _ hk => hk.2) (.slice Ao79 t297.length co79)) (fun _ hk => ⟨hk.1.1.1.1.1, ⟨hk.1.1.1.1.2.1, ⟨hk.1.1.1.1.2.2.1, ⟨hk.1.1.1.1.2.2.2.1, ⟨hk.1.1.1.2, ⟨hk.1.1.2, ⟨hk.1.2, hk.1.1.1.1.2.2.2.2⟩⟩⟩⟩⟩⟩⟩)⟩
     have n2_ : Aside0 (Kd.R k45 45 ((((w76.setCell ⟨gb272, 0, none⟩ (.int .i64 t292)).setCell ⟨gb272, 1, none⟩ (.int .i64 t293)).setCell ⟨gb272, 2, none⟩ (.slice Ao78 t294.length co78)).setCell ⟨gb272, 3, none⟩ (.slice Ao79 t297.length co79)) w0.heap.size (fun k_ => ((P0_2_ k_ ∨ P0_3_ k_) ∨ w.heap.size ≤ k_) ∧ some k_ ≠ (.slice (some ad284) l0_2.length co52 : Value).ownBlock ∧ some k_ ≠ (.slice Ao53 l0_3.length co53 : Value).ownBlock ∧ some k_ ≠ (.slice Ao72 t289.length co72 : Value).ownBlock ∧ some k_ ≠ (.slice Ao78 t294.length co78 : Value).ownBlock ∧ some k_ ≠ (.slice Ao79 t297.length co79 : Value).ownBlock ∧ some k_ ≠ (v301 : Value).ownBlock ∧ k_ ≠ gb285) (.slice Ao68 t286.length co68) t286) := ⟨by (with_reducible repeat (first | apply Kd.R_alloc | apply Kd.R_drewN | apply Kd.R_drew)); exact Kd.R_mono (Kd.R_far (p := ⟨gb272, 3, none⟩) (Kd.R_far (p := ⟨gb272, 2, none⟩) (Kd.R_far (p := ⟨gb272, 1, none⟩) (Kd.R_far (p := ⟨gb272, 0, none⟩) (Kd.R_types HO288.out BK272.out (by decide)) (fun _ hk => hk.2) (.int .i64 t292)) (fun _ hk => hk.2) (.int .i64 t293)) (fun _ hk => hk.2) (.slice Ao78 t294.length co78)) (fun _ hk => hk.2) (.slice Ao79 t297.length co79)) (fun _ hk => ⟨hk.1.1.1.1.1, ⟨hk.1.1.1.1.2.1, ⟨hk.1.1.1.1.2.2.1, ⟨hk.1.1.1.1.2.2.2.1, ⟨hk.1.1.1.2, ⟨hk.1.1.2, ⟨hk.1.2, hk.1.1.1.1.2.2.2.2⟩⟩⟩⟩⟩⟩⟩)⟩
     have n3_ : Aside0 (Kd.R k45 45 ((((w76.setCell ⟨gb272, 0, none⟩ (.int .i64 t292)).setCell ⟨gb272, 1, none⟩ (.int .i64 t293)).setCell ⟨gb272, 2, none⟩ (.slice Ao78 t294.length co78)).setCell ⟨gb272, 3, none⟩ (.slice Ao79 t297.length co79)) w0.heap.size (fun k_ => ((P0_2_ k_ ∨ P0_3_ k_) ∨ w.heap.size ≤ k_) ∧ some k_ ≠ (.slice (some ad284) l0_2.length co52 : Value).ownBlock ∧ some k_ ≠ (.slice Ao53 l0_3.length co53 : Value).ownBlock ∧ some k_ ≠ (.slice Ao68 t286.length co68 : Value).ownBlock ∧ some k_ ≠ (.slice Ao78 t294.length co78 : Value).ownBlock ∧ some k_ ≠ (.slice Ao79 t297.length co79 : Value).ownBlock ∧ some k_ ≠ (v301 : Value).ownBlock ∧ k_ ≠ gb285) (.slice Ao72 t289.length co72) t289) := ⟨by (with_reducible repeat (first | apply Kd.R_alloc | apply Kd.R_drewN | apply Kd.R_drew)); exact Kd.R_mono (Kd.R_far (p := ⟨gb272, 3, none⟩) (Kd.R_far (p := ⟨gb272, 2, none⟩) (Kd.R_far (p := ⟨gb272, 1, none⟩) (Kd.R_far (p := ⟨gb272, 0, none⟩) (Kd.R_types HO291.out BK272.out (by decide)) (fun _ hk => hk.2) (.int .i64 t292)) (fun _ hk => hk.2) (.int .i64 t293)) (fun _ hk => hk.2) (.slice Ao78 t294.length co78)) (fun _ hk => hk.2) (.slice Ao79 t297.length co79)) (fun _ hk => ⟨hk.1.1.1.1.1, ⟨hk.1.1.1.1.2.1, ⟨hk.1.1.1.1.2.2.1, ⟨hk.1.1.1.1.2.2.2.1, ⟨hk.1.1.1.2, ⟨hk.1.1.2, ⟨hk.1.2, hk.1.1.1.1.2.2.2.2⟩⟩⟩⟩⟩⟩⟩)⟩
     have n4_ : Aside0 (Kd.R k45 45 ((((w76.setCell ⟨gb272, 0, none⟩ (.int .i64 t292)).setCell ⟨gb272, 1, none⟩ (.int .i64 t293)).setCell ⟨gb272, 2, none⟩ (.slice Ao78 t294.length co78)).setCell ⟨gb272, 3, none⟩ (.slice Ao79 t297.length co79)) w0.heap.size (fun k_ => ((P0_2_ k_ ∨ P0_3_ k_) ∨ w.heap.size ≤ k_) ∧ some k_ ≠ (.slice (some ad284) l0_2.length co52 : Value).ownBlock ∧ some k_ ≠ (.slice Ao53 l0_3.length co53 : Value).ownBlock ∧ some k_ ≠ (.slice Ao68 t286.length co68 : Value).ownBlock ∧ some k_ ≠ (.slice Ao72 t289.length co72 : Value).ownBlock ∧ some k_ ≠ (.slice Ao79 t297.length co79 : Value).ownBlock ∧ some k_ ≠ (v301 : Value).ownBlock ∧ k_ ≠ gb285) (.slice Ao78 t294.length co78) t294) := ⟨by (with_reducible repeat (first | apply Kd.R_alloc | apply Kd.R_drewN | apply Kd.R_drew)); exact Kd.R_mono (Kd.R_far (p := ⟨gb272, 3, none⟩) (Kd.R_far (p := ⟨gb272, 2, none⟩) (Kd.R_far (p := ⟨gb272, 1, none⟩) (Kd.R_far (p := ⟨gb272, 0, none⟩) (Kd.R_types HO296.out BK272.out (by decide)) (fun _ hk => hk.2) (.int .i64 t292)) (fun _ hk => hk.2) (.int .i64 t293)) (fun _ hk => hk.2) (.slice Ao78 t294.length co78)) (fun _ hk => hk.2) (.slice Ao79 t297.length co79)) (fun _ hk => ⟨hk.1.1.1.1.1.1.1, ⟨hk.1.1.1.1.1.2, ⟨hk.1.1.1.1.2, ⟨hk.1.1.1.2, ⟨hk.1.1.2, ⟨hk.1.1.1.1.1.1.2.1, ⟨hk.1.1.1.1.1.1.2.2, hk.1.2⟩⟩⟩⟩⟩⟩⟩)⟩
     have n5_ : Aside0 (Kd.R k45 45 ((((w76.setCell ⟨gb272, 0, none⟩ (.int .i64 t292)).setCell ⟨gb272, 1, none⟩ (.int .i64 t293)).setCell ⟨gb272, 2, none⟩ (.slice Ao78 t294.length co78)).setCell ⟨gb272, 3, none⟩ (.slice Ao79 t297.length co79)) w0.heap.size (fun k_ => ((P0_2_ k_ ∨ P0_3_ k_) ∨ w.heap.size ≤ k_) ∧ some k_ ≠ (.slice (some ad284) l0_2.length co52 : Value).ownBlock ∧ some k_ ≠ (.slice Ao53 l0_3.length co53 : Value).ownBlock ∧ some k_ ≠ (.slice Ao68 t286.length co68 : Value).ownBlock ∧ some k_ ≠ (.slice Ao72 t289.length co72 : Value).ownBlock ∧ some k_ ≠ (.slice Ao78 t294.length co78 : Value).ownBlock ∧ some k_ ≠ (v301 : Value).ownBlock ∧ k_ ≠ gb285) (.slice Ao79 t297.length co79) t297) := ⟨by (with_reducible repeat (first | apply Kd.R_alloc | apply Kd.R_drewN | apply Kd.R_drew)); exact Kd.R_mono (Kd.R_far (p := ⟨gb272, 3, none⟩) (Kd.R_far (p := ⟨gb272, 2, none⟩) (Kd.R_far (p := ⟨gb272, 1, none⟩) (Kd.R_far (p := ⟨gb272, 0, none⟩) (Kd.R_types HO299.out BK272.out (by decide)) (fun _ hk => hk.2) (.int .i64 t292)) (fun _ hk => hk.2) (.int .i64 t293)) (fun _ hk => hk.2) (.slice Ao78 t294.length co78)) (fun _ hk => hk.2) (.slice Ao79 t297.length co79)) (fun _ hk => ⟨hk.1.1.1.1.1.1.1, ⟨hk.1.1.1.1.1.2, ⟨hk.1.1.1.1.2, ⟨hk.1.1.1.2, ⟨hk.1.1.2, ⟨hk.1.1.1.1.1.1.2.1, ⟨hk.1.1.1.1.1.1.2.2, hk.1.2⟩⟩⟩⟩⟩⟩⟩)⟩
     have n6_ : Aside0 (Kd.R k45 45 ((((w76.setCell ⟨gb272, 0, none⟩ (.int .i64 t292)).setCell ⟨gb272, 1, none⟩ (.int .i64 t293)).setCell ⟨gb272, 2, none⟩ (.slice Ao78 t294.length co78)).setCell ⟨gb272, 3, none⟩ (.slice Ao79 t297.length co79)) w0.heap.size (fun k_ => ((P0_2_ k_ ∨ P0_3_ k_) ∨ w.heap.size ≤ k_) ∧ some k_ ≠ (.slice (some ad284) l0_2.length co52 : Value).ownBlock ∧ some k_ ≠ (.slice Ao53 l0_3.length co53 : Value).ownBlock ∧ some k_ ≠ (.slice Ao68 t286.length co68 : Value).ownBlock ∧ some k_ ≠ (.slice Ao72 t289.length co72 : Value).ownBlock ∧ some k_ ≠ (.slice Ao78 t294.length co78 : Value).ownBlock ∧ some k_ ≠ (.slice Ao79 t297.length co79 : Value).ownBlock ∧ k_ ≠ gb285) v301 t300) := ⟨by (with_reducible repeat (first | apply Kd.R_alloc | apply Kd.R_drewN | apply Kd.R_drew)); exact Kd.R_mono (Kd.R_far (p := ⟨gb272, 3, none⟩) (Kd.R_far (p := ⟨gb272, 2, none⟩) (Kd.R_far (p := ⟨gb272, 1, none⟩) (Kd.R_far (p := ⟨gb272, 0, none⟩) (Kd.R_types HO302.out BK272.out (by decide)) (fun _ hk => hk.2) (.int .i64 t292)) (fun _ hk => hk.2) (.int .i64 t293)) (fun _ hk => hk.2) (.slice Ao78 t294.length co78)) (fun _ hk => hk.2) (.slice Ao79 t297.length co79)) (fun _ hk => ⟨hk.1.1.1.1.1.1.1, ⟨hk.1.1.1.1.1.2, ⟨hk.1.1.1.1.2, ⟨hk.1.1.1.2, ⟨hk.1.1.2, ⟨hk.1.1.1.1.1.1.2.1, ⟨hk.1.1.1.1.1.1.2.2, hk.1.2⟩⟩⟩⟩⟩⟩⟩)⟩
     have n7_ : Aside0 (((((w76.setCell ⟨gb272, 0, none⟩ (.int .i64 t292)).setCell ⟨gb272, 1, none⟩ (.int .i64 t293)).setCell ⟨gb272, 2, none⟩ (.slice Ao78 t294.length co78)).setCell ⟨gb272, 3, none⟩ (.slice Ao79 t297.length co79)).heap[gb272]? = some (.cells #[.int .i64 t292, .int .i64 t293, .slice Ao78 t294.length co78, .slice Ao79 t297.length co79] 28 (0, 0))) := ⟨by (with_reducible repeat (first | refine blk_drewN ?_ _ | refine blk_drew ?_ | refine blk_alloc ?_ _)); refine blk_put (cs := #[.int .i64 t292, .int .i64 t293, .slice Ao78 t294.length co78, .slice Ao72 t289.length co72]) ?_ 3 _ rfl; (with_reducible repeat (first | refine blk_drewN ?_ _ | refine blk_drew ?_ | refine blk_alloc ?_ _)); refine blk_put (cs := #[.int .i64 t292, .int .i64 t293, .slice Ao68 t286.length co68, .slice Ao72 t289.length co72]) ?_ 2 _ rfl; (with_reducible repeat (first | refine blk_drewN ?_ _ | refine blk_drew ?_ | refine blk_alloc ?_ _)); refine blk_put (cs := #[.int .i64 t292, .int .i64 a0_1, .slice Ao68 t286.length co68, .slice Ao72 t289.length co72]) ?_ 1 _ rfl; (with_reducible repeat (first | refine blk_drewN ?_ _ | refine blk_drew ?_ | refine blk_alloc ?_ _)); refine blk_put (cs := #[.int .i64 a0_0, .int .i64 a0_1, .slice Ao68 t286.length co68, .slice Ao72 t289.length co72]) ?_ 0 _ rfl; exact bk BK272.out⟩
     have n8_ : Aside0 (((((w76.setCell ⟨gb272, 0, none⟩ (.int .i64 t292)).setCell ⟨gb272, 1, none⟩ (.int .i64 t293)).setCell ⟨gb272, 2, none⟩ (.slice Ao78 t294.length co78)).setCell ⟨gb272, 3, none⟩ (.slice Ao79 t297.length co79)).heap[gb273]? = some (.cells #[.int .i64 0, .int .i64 0, .slice none 0 0, .slice none 0 0] 28 (0, 0))) := ⟨by (with_reducible repeat (first | refine blk_drewN ?_ _ | refine blk_drew ?_ | refine blk_alloc ?_ _)); refine blk_far ?_ NB273_272.out _; (with_reducible repeat (first | refine blk_drewN ?_ _ | refine blk_drew ?_ | refine blk_alloc ?_ _)); refine blk_far ?_ NB273_272.out _; (with_reducible repeat (first | refine blk_drewN ?_ _ | refine blk_drew ?_ | refine blk_alloc ?_ _)); refine blk_far ?_ NB273_272.out _; (with_reducible repeat (first | refine blk_drewN ?_ _ | refine blk_drew ?_ | refine blk_alloc ?_ _)); refine blk_far ?_ NB273_272.out _; exact bk BK273.out⟩
     have n9_ : Aside0 (((((w76.setCell ⟨gb272, 0, none⟩ (.int .i64 t292)).setCell ⟨gb272, 1, none⟩ (.int .i64 t293)).setCell ⟨gb272, 2, none⟩ (.slice Ao78 t294.length co78)).setCell ⟨gb272, 3, none⟩ (.slice Ao79 t297.length co79)).heap[gb285]? = some (.cells #[.string ((rd_T45 l0_2 t283).f0), .string ((rd_T45 l0_2 t283).f1)] 45 (0, 0))) := ⟨by (with_reducible repeat (first | refine blk_drewN ?_ _ | refine blk_drew ?_ | refine blk_alloc ?_ _)); refine blk_far ?_ NB285_272.out _; (with_reducible repeat (first | refine blk_drewN ?_ _ | refine blk_drew ?_ | refine blk_alloc ?_ _)); refine blk_far ?_ NB285_272.out _; (with_reducible repeat (first | refine blk_drewN ?_ _ | refine blk_drew ?_ | refine blk_alloc ?_ _)); refine blk_far ?_ NB285_272.out _; (with_reducible repeat (first | refine blk_drewN ?_ _ | refine blk_drew ?_ | refine blk_alloc ?_ _)); refine blk_far ?_ NB285_272.out _; exact bk BK285.out⟩
     have n10_ : Aside0 (Kept w ((((w76.setCell ⟨gb272, 0, none⟩ (.int .i64 t292)).setCell ⟨gb272, 1, none⟩ (.int .i64 t293)).setCell ⟨gb272, 2, none⟩ (.slice Ao78 t294.length co78)).setCell ⟨gb272, 3, none⟩ (.slice Ao79 t297.length co79)) (fun k_ => P0_2_ k_ ∨ P0_3_ k_)) := ⟨by repeat (first | (with_reducible first | exact HK.out | apply Kept.alloc | apply Kept.drewN | apply Kept.drew | refine Kept.setCell ?_ (.inr GW272.out) _ | refine Kept.setCell ?_ (.inr GW273.out) _ | refine Kept.setCell ?_ (.inr GW285.out) _) | exact HK.out)⟩
     have n11_ : Aside0 (Below w0.heap.size w0 ((((w76.setCell ⟨gb272, 0, none⟩ (.int .i64 t292)).setCell ⟨gb272, 1, none⟩ (.int .i64 t293)).setCell ⟨gb272, 2, none⟩ (.slice Ao78 t294.length co78)).setCell ⟨gb272, 3, none⟩ (.slice Ao79 t297.length co79))) := ⟨bl3 HB.out GE272.out GE273.out GE285.out⟩
     (try clear HO0_2)
     (try clear HO0_3)
     (try clear HO288)
     (try clear HO291)
     (try clear HO296)
     (try clear HO299)
     (try clear HO302)
     (try clear BK272)
     (try clear BK273)
     (try clear BK285)
     (try clear HK)
     (try clear HB)
     generalize ((((w76.setCell ⟨gb272, 0, none⟩ (.int .i64 t292)).setCell ⟨gb272, 1, none⟩ (.int .i64 t293)).setCell ⟨gb272, 2, none⟩ (.slice Ao78 t294.length co78)).setCell ⟨gb272, 3, none⟩ (.slice Ao79 t297.length co79)) = w80 at n0_ n1_ n2_ n3_ n4_ n5_ n6_ n7_ n8_ n9_ n10_ n11_ ⊢
     have HO0_2 := n0_
     have HO0_3 := n1_
     have HO288 := n2_
     have HO291 := n3_
     have HO296 := n4_
     have HO299 := n5_
     have HO302 := n6_
     have BK272 := n7_
     have BK273 := n8_
     have BK285 := n9_
     have HK := n10_
     have HB := n11_
     clear n0_ n1_ n2_ n3_ n4_ n5_ n6_ n7_ n8_ n9_ n10_ n11_
     have n0_ := Aside0.mk (Kd.R_drew HO0_2.out)
     have n1_ := Aside0.mk (Kd.R_drew HO0_3.out)
     have n2_ := Aside0.mk (Kd.R_drew HO288.out)
     have n3_ := Aside0.mk (Kd.R_drew HO291.out)
     have n4_ := Aside0.mk (Kd.R_drew HO296.out)
     have n5_ := Aside0.mk (Kd.R_drew HO299.out)
     have n6_ := Aside0.mk (Kd.R_drew HO302.out)
     have n7_ := Aside0.mk (blk_drew BK272.out)
     have n8_ := Aside0.mk (blk_drew BK273.out)
     have n9_ := Aside0.mk (blk_drew BK285.out)
     have n10_ := Aside0.mk (Kept.drew HK.out)
     have n11_ := Aside0.mk (below_drew1 HB.out)
     clear HO0_2
     clear HO0_3
     clear HO288
     clear HO291
     clear HO296
     clear HO299
     clear HO302
     clear BK272
     clear BK273
     clear BK285
     clear HK
     clear HB
     have HO0_2 := n0_
     have HO0_3 := n1_
     have HO288 := n2_
     have HO291 := n3_
     have HO296 := n4_
     have HO299 := n5_
     have HO302 := n6_
     have BK272 := n7_
     have BK273 := n8_
     have BK285 := n9_
     have HK := n10_
     have HB := n11_
     clear n0_ n1_ n2_ n3_ n4_ n5_ n6_ n7_ n8_ n9_ n10_ n11_
     refine start_ (n := 6) (S := fun w' => w'.cell? ⟨gb272, 0, none⟩ = some (.int .i64 t292) ∧ w'.cell? ⟨gb272, 1, none⟩ = some (.int .i64 t293) ∧ w'.cell? ⟨gb272, 2, none⟩ = some (.slice Ao78 t294.length co78) ∧ w'.cell? ⟨gb272, 3, none⟩ = some (.slice Ao79 t297.length co79) ∧ w'.cell? ⟨gb285, 0, none⟩ = some (.string ((rd_T45 l0_2 t283).f0)) ∧ w'.cell? ⟨gb285, 1, none⟩ = some (.string ((rd_T45 l0_2 t283).f1))) (ds := []) #[false, false, false, false, false, false] (by kernel_rfl) rfl rfl ⟨(blk_cell BK272.out 0).trans rfl, (blk_cell BK272.out 1).trans rfl, (blk_cell BK272.out 2).trans rfl, (blk_cell BK272.out 3).trans rfl, (blk_cell BK285.out 0).trans rfl, (blk_cell BK285.out 1).trans rfl⟩ (fun hHeld => ?_)
     generalize w80.drew = w81 at HO0_2 HO0_3 HO288 HO291 HO296 HO299 HO302 BK272 BK273 BK285 HK HB hHeld ⊢
     refine pure_ (i := 1) (N := some 60) (v := ?_) (a' := ?_) #[false, true, false, false, false, false] rfl rfl (by kernel_rfl) (fun _ _ _ h => h) (Or.inl ⟨by rfl, ?_⟩) ?_ ?_
     rotate_left
     ·intro w'
      go_simp
      with_reducible rfl
     rotate_left
     ·simp only [Act.put, List.setIfInBounds_toArray, List.set_cons_zero, List.set_cons_succ, i64_w, i32_w]
      rfl
     refine take_ (i := 0) (N := some 59) (v := ?_) (a' := ?_) #[true, true, false, false, false, false] rfl rfl (by kernel_rfl) (fun _ _ _ h => h) (Or.inl ⟨by rfl, ?_⟩) hHeld ?_ ?_
     rotate_left
     ·rintro w' ⟨s0, s1, s2, s3, s4, s5⟩
      go_simp
      with_reducible rfl
     rotate_left
     ·simp only [Act.put, List.setIfInBounds_toArray, List.set_cons_zero, List.set_cons_succ, i64_w, i32_w]
      rfl
     refine take_ (i := 2) (N := some 61) (v := ?_) (a' := ?_) #[true, true, true, false, false, false] rfl rfl (by kernel_rfl) (fun _ _ _ h => h) (Or.inl ⟨by rfl, ?_⟩) hHeld ?_ ?_
     rotate_left
     ·rintro w' ⟨s0, s1, s2, s3, s4, s5⟩
      go_simp
      with_reducible rfl
     rotate_left
     ·simp only [Act.put, List.setIfInBounds_toArray, List.set_cons_zero, List.set_cons_succ, i64_w, i32_w]
      rfl
     refine one_ (i := 3) (N := none) #[true, true, true, true, false, false] rfl rfl (by kernel_rfl) (by decide) (fun K hK => ?_)
     have hs82 : w81.cell? ⟨gb273, 0, none⟩ = some (.int .i64 0) := (blk_cell BK273.out 0).trans rfl
     have hfs82 := blk_frozen BK273.out 0
     have hns82_0 := NB272_273.out
     have hns82_2 := NB285_273.out
     have hms82_0 := NB273_272.out
     have hms82_2 := NB273_285.out
     have hs83 : w81.cell? ⟨gb273, 1, none⟩ = some (.int .i64 0) := (blk_cell BK273.out 1).trans rfl
     have hfs83 := blk_frozen BK273.out 1
     have hns83_0 := NB272_273.out
     have hns83_2 := NB285_273.out
     have hms83_0 := NB273_272.out
     have hms83_2 := NB273_285.out
     have hs84 : w81.cell? ⟨gb273, 2, none⟩ = some (.slice none 0 0) := (blk_cell BK273.out 2).trans rfl
     have hfs84 := blk_frozen BK273.out 2
     have hns84_0 := NB272_273.out
     have hns84_2 := NB285_273.out
     have hms84_0 := NB273_272.out
     have hms84_2 := NB273_285.out
     have hs85 : w81.cell? ⟨gb273, 3, none⟩ = some (.slice none 0 0) := (blk_cell BK273.out 3).trans rfl
     have hfs85 := blk_frozen BK273.out 3
     have hns85_0 := NB272_273.out
     have hns85_2 := NB285_273.out
     have hms85_0 := NB273_272.out
     have hms85_2 := NB273_285.out
     refine skip_ (w1 := ?_) (by rfl) rfl ?_ ?_
     rotate_left
     ·go_simp
      rfl
     refine hK.out _ _ ⟨((cell_far (p := ⟨gb273, _, none⟩) NB272_273.out _).trans (((cell_far (p := ⟨gb273, _, none⟩) NB272_273.out _).trans (((cell_far (p := ⟨gb273, _, none⟩) NB272_273.out _).trans (((cell_far (p := ⟨gb273, _, none⟩) NB272_273.out _).trans (hHeld.1)))))))), ((cell_far (p := ⟨gb273, _, none⟩) NB272_273.out _).trans (((cell_far (p := ⟨gb273, _, none⟩) NB272_273.out _).trans (((cell_far (p := ⟨gb273, _, none⟩) NB272_273.out _).trans (((cell_far (p := ⟨gb273, _, none⟩) NB272_273.out _).trans (hHeld.2.1)))))))), ((cell_far (p := ⟨gb273, _, none⟩) NB272_273.out _).trans (((cell_far (p := ⟨gb273, _, none⟩) NB272_273.out _).trans (((cell_far (p := ⟨gb273, _, none⟩) NB272_273.out _).trans (((cell_far (p := ⟨gb273, _, none⟩) NB272_273.out _).trans (hHeld.2.2.1)))))))), ((cell_far (p := ⟨gb273, _, none⟩) NB272_273.out _).trans (((cell_far (p := ⟨gb273, _, none⟩) NB272_273.out _).trans (((cell_far (p := ⟨gb273, _, none⟩) NB272_273.out _).trans (((cell_far (p := ⟨gb273, _, none⟩) NB272_273.out _).trans (hHeld.2.2.2.1)))))))), ((cell_far (p := ⟨gb273, _, none⟩) NB285_273.out _).trans (((cell_far (p := ⟨gb273, _, none⟩) NB285_273.out _).trans (((cell_far (p := ⟨gb273, _, none⟩) NB285_273.out _).trans (((cell_far (p := ⟨gb273, _, none⟩) NB285_273.out _).trans (hHeld.2.2.2.2.1)))))))), ((cell_far (p := ⟨gb273, _, none⟩) NB285_273.out _).trans (((cell_far (p := ⟨gb273, _, none⟩) NB285_273.out _).trans (((cell_far (p := ⟨gb273, _, none⟩) NB285_273.out _).trans (((cell_far (p := ⟨gb273, _, none⟩) NB285_273.out _).trans (hHeld.2.2.2.2.2))))))))⟩ (fun hHeld => ?_)
     clear hK K
     refine pure_ (i := 4) (N := some 5) (v := ?_) (a' := ?_) #[true, true, true, true, true, false] rfl rfl (by kernel_rfl) (fun _ _ _ h => h) (Or.inl ⟨by rfl, ?_⟩) ?_ ?_
     rotate_left
     ·intro w'
      go_simp
      with_reducible rfl
     rotate_left
     ·simp only [Act.put, List.setIfInBounds_toArray, List.set_cons_zero, List.set_cons_succ, i64_w, i32_w]
      rfl
     refine pure_ (i := 5) (N := some 6) (v := ?_) (a' := ?_) #[true, true, true, true, true, true] rfl rfl (by kernel_rfl) (fun _ _ _ h => h) (Or.inl ⟨by rfl, ?_⟩) ?_ ?_
     rotate_left
     ·intro w'
      go_simp
      with_reducible rfl
     rotate_left
     ·simp only [Act.put, List.setIfInBounds_toArray, List.set_cons_zero, List.set_cons_succ, i64_w, i32_w]
      rfl
     refine done_ (by kernel_rfl) ?_
     try go_wp2
     refine bodyPost_ret (results_ctt rfl _ _ gb273 28 #[.int .i64 t292, .int .i64 t293, .slice Ao78 t294.length co78, .slice Ao79 t297.length co79] (0, 0) _ rfl (by (with_reducible repeat (first | refine blk_drewN ?_ _ | refine blk_drew ?_ | refine blk_alloc ?_ _)); refine blk_put (cs := #[.int .i64 t292, .int .i64 t293, .slice Ao78 t294.length co78, .slice none 0 0]) ?_ 3 _ rfl; (with_reducible repeat (first | refine blk_drewN ?_ _ | refine blk_drew ?_ | refine blk_alloc ?_ _)); refine blk_put (cs := #[.int .i64 t292, .int .i64 t293, .slice none 0 0, .slice none 0 0]) ?_ 2 _ rfl; (with_reducible repeat (first | refine blk_drewN ?_ _ | refine blk_drew ?_ | refine blk_alloc ?_ _)); refine blk_put (cs := #[.int .i64 t292, .int .i64 0, .slice none 0 0, .slice none 0 0]) ?_ 1 _ rfl; (with_reducible repeat (first | refine blk_drewN ?_ _ | refine blk_drew ?_ | refine blk_alloc ?_ _)); refine blk_put (cs := #[.int .i64 0, .int .i64 0, .slice none 0 0, .slice none 0 0]) ?_ 0 _ rfl; exact bk BK273.out) Try.underlying28 rfl (by kernel_rfl)) rfl ?_
     exact ⟨_, _, by first | rfl | (simp [errW_none, errW_some] <;> rfl) | (simp [*, errW_none, errW_some] <;> rfl), by (with_reducible repeat (first | apply Kd.R_alloc | apply Kd.R_drewN | apply Kd.R_drew)); exact Kd.R_mono (Kd.R_far (p := ⟨gb273, 3, none⟩) (Kd.R_far (p := ⟨gb273, 2, none⟩) (Kd.R_far (p := ⟨gb273, 1, none⟩) (Kd.R_far (p := ⟨gb273, 0, none⟩) (Kd.R_types HO296.out BK273.out (by decide)) (fun _ hk => hk.2) (.int .i64 t292)) (fun _ hk => hk.2) (.int .i64 t293)) (fun _ hk => hk.2) (.slice Ao78 t294.length co78)) (fun _ hk => hk.2) (.slice Ao79 t297.length co79)) (fun _ hk => ⟨hk.1.1, hk.1.2.2.2.2.2.1⟩), by (with_reducible repeat (first | apply Kd.R_alloc | apply Kd.R_drewN | apply Kd.R_drew)); exact Kd.R_mono (Kd.R_far (p := ⟨gb273, 3, none⟩) (Kd.R_far (p := ⟨gb273, 2, none⟩) (Kd.R_far (p := ⟨gb273, 1, none⟩) (Kd.R_far (p := ⟨gb273, 0, none⟩) (Kd.R_types HO299.out BK273.out (by decide)) (fun _ hk => hk.2) (.int .i64 t292)) (fun _ hk => hk.2) (.int .i64 t293)) (fun _ hk => hk.2) (.slice Ao78 t294.length co78)) (fun _ hk => hk.2) (.slice Ao79 t297.length co79)) (fun _ hk => ⟨hk.1.1, hk.1.2.2.2.2.2.1⟩), bl3 HB.out GE272.out GE273.out GE285.out, by repeat (first | (with_reducible first | exact HK.out | apply Kept.alloc | apply Kept.drewN | apply Kept.drew | refine Kept.setCell ?_ (.inr GW272.out) _ | refine Kept.setCell ?_ (.inr GW273.out) _ | refine Kept.setCell ?_ (.inr GW285.out) _) | exact HK.out)⟩
    ·rw [if_neg c48] at H
     exact absurd H (by simp)
   ·rw [if_neg c47] at H
    exact absurd H (by simp)

/-! ### spec_GetEntry: function 30 -/
def spec_GetEntry.f (k : Nat) (a0_0 : Int) (a0_1 : Int) (l0_2 : List (S45)) (l0_3 : List (S45)) (a1 : ByteArray) : Option (Int × Int × (List (S45)) × (List (S45)) × ByteArray × Bool) := (spec_GoodSegmented.f k a0_0 a0_1 l0_2 l0_3).bind fun t305 => (if t305 = true then ((spec_l12Own.f a0_0 a0_1 l0_2 l0_3).bind fun bt306 => ((spec_l12Get.f k bt306.1 bt306.2.1 bt306.2.2.1 bt306.2.2.2 a1).bind fun bt314 => (some (bt314.1, bt314.2.1, bt314.2.2.1, bt314.2.2.2.1, bt314.2.2.2.2.1, bt314.2.2.2.2.2)))) else (some (0, 0, ([] : List (S45)), ([] : List (S45)), (⟨#[]⟩ : ByteArray), false)))
theorem spec_GetEntry.mono : ∀ a0 a1 a2 a3 a4 k, LeO (spec_GetEntry.f k a0 a1 a2 a3 a4) (spec_GetEntry.f (k + 1) a0 a1 a2 a3 a4) := by
 intro a0 a1 a2 a3 a4 k
 unfold spec_GetEntry.f
 repeat' first
   | (with_reducible exact spec_GoodSegmented.mono _ _ _ _ _)
   | (with_reducible exact spec_l12Get.mono _ _ _ _ _ _)
   | (with_reducible exact LeO.refl _)
   | (with_reducible exact LeO.none _)
   | (with_reducible refine LeO.ite ?_ ?_)
   | (with_reducible refine LeO.bind ?_ (fun _ => ?_))
   | exact spec_GoodSegmented.mono _ _ _ _ _
   | exact spec_l12Get.mono _ _ _ _ _ _
   | exact LeO.none _
   | refine LeO.ite ?_ ?_
   | refine LeO.bind ?_ (fun _ => ?_)
set_option maxHeartbeats 8000000 in
set_option maxRecDepth 100000 in
theorem spec_GetEntry.calls (k : Nat) (a0_0 : Int) (a0_1 : Int) (A0_2 : Option Addr) (c0_2 : Nat) (l0_2 : List (S45)) (A0_3 : Option Addr) (c0_3 : Nat) (l0_3 : List (S45)) (a1 : ByteArray) (r1 : Int) (r2 : Int) (r3 : List (S45)) (r4 : List (S45)) (r5 : ByteArray) (r6 : Bool) (w : World) (hr0_2 : Kd.C k45 w A0_2 l0_2.length l0_2) (hc0_2 : l0_2.length ≤ c0_2) (hr0_3 : Kd.C k45 w A0_3 l0_3.length l0_3) (hc0_3 : l0_3.length ≤ c0_3) (h : spec_GetEntry.f k a0_0 a0_1 l0_2 l0_3 a1 = some (r1, r2, r3, r4, r5, r6)) :
  Calls Try.prog 30 #[.agg #[.int .i64 a0_0, .int .i64 a0_1, .slice A0_2 l0_2.length c0_2, .slice A0_3 l0_3.length c0_3], .string a1] w fun e w' => ∃ v2_ v3_ : Value, e = .returned (.tuple #[.agg #[.int .i64 r1, .int .i64 r2, v2_, v3_], .string r5, .bool r6]) ∧ Kd.R k45 45 w' w.heap.size (fun k_ => some k_ ≠ (v3_ : Value).ownBlock) v2_ r3 ∧ Kd.R k45 45 w' w.heap.size (fun k_ => some k_ ≠ (v2_ : Value).ownBlock) v3_ r4 ∧ Below w.heap.size w w' := by
 have hu28 := Try.underlying28
 have HR0_2 := Aside0.mk hr0_2
 have HC0_2 := Aside0.mk hc0_2
 clear hr0_2 hc0_2
 have HR0_3 := Aside0.mk hr0_3
 have HC0_3 := Aside0.mk hc0_3
 clear hr0_3 hc0_3
 have HB := Aside0.mk (Below.refl w.heap.size w)
 have H : ((spec_GoodSegmented.f k a0_0 a0_1 l0_2 l0_3).bind fun t305 => (if t305 = true then ((spec_l12Own.f a0_0 a0_1 l0_2 l0_3).bind fun bt306 => ((spec_l12Get.f k bt306.1 bt306.2.1 bt306.2.2.1 bt306.2.2.2 a1).bind fun bt314 => (some (bt314.1, bt314.2.1, bt314.2.2.1, bt314.2.2.2.1, bt314.2.2.2.2.1, bt314.2.2.2.2.2)))) else (some (0, 0, ([] : List (S45)), ([] : List (S45)), (⟨#[]⟩ : ByteArray), false)))) = some (r1, r2, r3, r4, r5, r6) := h
 clear h
 replace H := Option.bind_eq_some_iff.mp H
 obtain ⟨t305, A30, H⟩ := H
 try dsimp only at H
 have A3 := Aside0.mk A30
 clear A30
 by_cases c4 : t305 = true
 ·subst c4
  have H1 : ((spec_l12Own.f a0_0 a0_1 l0_2 l0_3).bind fun bt306 => ((spec_l12Get.f k bt306.1 bt306.2.1 bt306.2.2.1 bt306.2.2.2 a1).bind fun bt314 => (some (bt314.1, bt314.2.1, bt314.2.2.1, bt314.2.2.2.1, bt314.2.2.2.2.1, bt314.2.2.2.2.2)))) = some (r1, r2, r3, r4, r5, r6) := by rw [if_pos rfl] at H; exact H
  clear H
  have H := H1
  clear H1
  replace H := Option.bind_eq_some_iff.mp H
  obtain ⟨⟨t306, t307, t308, t311⟩, A50, H⟩ := H
  try dsimp only at H
  have A5 := Aside0.mk A50
  clear A50
  replace H := Option.bind_eq_some_iff.mp H
  obtain ⟨⟨t314, t315, t316, t319, t322, t323⟩, A60, H⟩ := H
  try dsimp only at H
  have A6 := Aside0.mk A60
  clear A60
  simp only [Option.some.injEq, Prod.mk.injEq] at H
  obtain ⟨rfl, rfl, rfl, rfl, rfl, rfl⟩ := H
  go_enter Try.func30, Try.ntmps30
  go_wp2_with (first | ((with_reducible refine gate_dst (N := 2) rfl ?_); refine box_event ?hg (N := 2) ?hd (cs := #[.int .i64 a0_0, .int .i64 a0_1, .slice A0_2 l0_2.length c0_2, .slice A0_3 l0_3.length c0_3]) (t := 28) ?hr ?_; (case hd => rfl); (case hg => rfl); (case hr => first | (go_simp; done) | (go_simp; rfl)); intro gb303 hg w7 hbox hb; have n0_ := Aside0.mk (below_step (bl HB.out) hb); have n1_ := Aside0.mk (hbox); have n2_ := Aside0.mk ((by rw [hg]; exact (below_size (bl HB.out)) : w.heap.size ≤ gb303)); have n3_ := Aside0.mk ((by rw [hg]; exact (below_size (bl HB.out)) : w.heap.size ≤ gb303)); clear HB; have HB := n0_; have BK303 := n1_; have GW303 := n2_; have GE303 := n3_; clear n0_ n1_ n2_ n3_; clear hb hbox hg) | ((with_reducible refine gate_dst (N := 4) rfl ?_); refine box_event ?hg (N := 4) ?hd (cs := #[.int .i64 0, .int .i64 0, .slice none 0 0, .slice none 0 0]) (t := 28) ?hr ?_; (case hd => rfl); (case hg => rfl); (case hr => first | (go_simp; done) | (go_simp; rfl)); intro gb304 hg w8 hbox hb; have n0_ := Aside0.mk (blk_below (g := gb303) (o := .cells #[.int .i64 a0_0, .int .i64 a0_1, .slice A0_2 l0_2.length c0_2, .slice A0_3 l0_3.length c0_3] 28 (0, 0)) (bk BK303.out) hb); have n1_ := Aside0.mk (below_step (bl1 HB.out GE303.out) hb); have n2_ := Aside0.mk (hbox); have n3_ := Aside0.mk ((by rw [hg]; exact (below_size (bl1 HB.out GE303.out)) : w.heap.size ≤ gb304)); have n4_ := Aside0.mk ((by rw [hg]; exact (below_size (bl1 HB.out GE303.out)) : w.heap.size ≤ gb304)); have n5_ := Aside0.mk ((by rw [hg]; exact Nat.ne_of_lt (blk_lt (g := gb303) (o := .cells #[.int .i64 a0_0, .int .i64 a0_1, .slice A0_2 l0_2.length c0_2, .slice A0_3 l0_3.length c0_3] 28 (0, 0)) (bk BK303.out)) : gb303 ≠ gb304)); have n6_ := Aside0.mk ((by rw [hg]; exact Nat.ne_of_gt (blk_lt (g := gb303) (o := .cells #[.int .i64 a0_0, .int .i64 a0_1, .slice A0_2 l0_2.length c0_2, .slice A0_3 l0_3.length c0_3] 28 (0, 0)) (bk BK303.out)) : gb304 ≠ gb303)); clear BK303; clear HB; have BK303 := n0_; have HB := n1_; have BK304 := n2_; have GW304 := n3_; have GE304 := n4_; have NB303_304 := n5_; have NB304_303 := n6_; clear n0_ n1_ n2_ n3_ n4_ n5_ n6_; clear hb hbox hg; have hnb9 := NB303_304.out; have hnc9 := NB304_303.out; have hcz10_0 : w8.cell? ⟨gb303, 0, none⟩ = some (.int .i64 a0_0) := (blk_cell BK303.out 0).trans rfl; have hcz10_1 : w8.cell? ⟨gb303, 1, none⟩ = some (.int .i64 a0_1) := (blk_cell BK303.out 1).trans rfl; have hcz10_2 : w8.cell? ⟨gb303, 2, none⟩ = some (.slice A0_2 l0_2.length c0_2) := (blk_cell BK303.out 2).trans rfl; have hcz10_3 : w8.cell? ⟨gb303, 3, none⟩ = some (.slice A0_3 l0_3.length c0_3) := (blk_cell BK303.out 3).trans rfl; have hfz10_0 := blk_frozen BK303.out 0; have hfz10_1 := blk_frozen BK303.out 1; have hfz10_2 := blk_frozen BK303.out 2; have hfz10_3 := blk_frozen BK303.out 3) | ((with_reducible refine gate_callee (f := 41) rfl ?_); refine goesL_ (some 8) rfl rfl Try.func41 (by kernel_rfl) rfl #[.agg #[.int .i64 a0_0, .int .i64 a0_1, .slice A0_2 l0_2.length c0_2, .slice A0_3 l0_3.length c0_3]] rfl (by (try simp only [List.map_toArray, List.map_cons, List.map_nil]); first | done | rfl | (simp only [List.length_drop, List.length_take]; rfl)) ?_; (with_reducible refine (spec_GoodSegmented.calls k a0_0 a0_1 _ _ l0_2 _ _ l0_3 true _ ?side1 ?side2 ?side3 ?side4 A3.out).mono ?_); (case side1 => exact kc (Kd.C_below HR0_2.out HB.out)); (case side2 => exact HC0_2.out); (case side3 => exact kc (Kd.C_below HR0_3.out HB.out)); (case side4 => exact HC0_3.out); rintro e w11 ⟨rfl, hb⟩; refine ⟨_, rfl, ?_⟩; have n0_ := Aside0.mk (blk_below (g := gb303) (o := .cells #[.int .i64 a0_0, .int .i64 a0_1, .slice A0_2 l0_2.length c0_2, .slice A0_3 l0_3.length c0_3] 28 (0, 0)) (bk BK303.out) hb); have n1_ := Aside0.mk (blk_below (g := gb304) (o := .cells #[.int .i64 0, .int .i64 0, .slice none 0 0, .slice none 0 0] 28 (0, 0)) (bk BK304.out) hb); have n2_ := Aside0.mk (below_step (bl2 HB.out GE303.out GE304.out) hb); clear BK303; clear BK304; clear HB; have BK303 := n0_; have BK304 := n1_; have HB := n2_; clear n0_ n1_ n2_; (try clear hb); (try clear hb2); (try clear hk); (try clear hi); have hcz12_0 : w11.cell? ⟨gb303, 0, none⟩ = some (.int .i64 a0_0) := (blk_cell BK303.out 0).trans rfl; have hcz12_1 : w11.cell? ⟨gb303, 1, none⟩ = some (.int .i64 a0_1) := (blk_cell BK303.out 1).trans rfl; have hcz12_2 : w11.cell? ⟨gb303, 2, none⟩ = some (.slice A0_2 l0_2.length c0_2) := (blk_cell BK303.out 2).trans rfl; have hcz12_3 : w11.cell? ⟨gb303, 3, none⟩ = some (.slice A0_3 l0_3.length c0_3) := (blk_cell BK303.out 3).trans rfl; have hfz12_0 := blk_frozen BK303.out 0; have hfz12_1 := blk_frozen BK303.out 1; have hfz12_2 := blk_frozen BK303.out 2; have hfz12_3 := blk_frozen BK303.out 3) | ((with_reducible refine gate_callee (f := 42) rfl ?_); refine goesL_ (some 12) rfl rfl Try.func42 (by kernel_rfl) rfl #[.agg #[.int .i64 a0_0, .int .i64 a0_1, .slice A0_2 l0_2.length c0_2, .slice A0_3 l0_3.length c0_3]] rfl (by (try simp only [List.map_toArray, List.map_cons, List.map_nil]); first | done | rfl | (simp only [List.length_drop, List.length_take]; rfl)) ?_; (with_reducible refine (spec_l12Own.calls a0_0 a0_1 _ _ l0_2 _ _ l0_3 t306 t307 t308 t311 _ ?side1 ?side2 ?side3 ?side4 A5.out).mono ?_); (case side1 => exact kc (Kd.C_below HR0_2.out HB.out)); (case side2 => exact HC0_2.out); (case side3 => exact kc (Kd.C_below HR0_3.out HB.out)); (case side4 => exact HC0_3.out); rintro e w13 ⟨v309, v312, rfl, ho0, ho1, hb⟩; refine ⟨_, rfl, ?_⟩; have n0_ := Aside0.mk (Kd.R_lower ho0 (below_size (bl2 HB.out GE303.out GE304.out))); have n1_ := Aside0.mk (Kd.R_lower ho1 (below_size (bl2 HB.out GE303.out GE304.out))); have n2_ := Aside0.mk (blk_below (g := gb303) (o := .cells #[.int .i64 a0_0, .int .i64 a0_1, .slice A0_2 l0_2.length c0_2, .slice A0_3 l0_3.length c0_3] 28 (0, 0)) (bk BK303.out) hb); have n3_ := Aside0.mk (blk_below (g := gb304) (o := .cells #[.int .i64 0, .int .i64 0, .slice none 0 0, .slice none 0 0] 28 (0, 0)) (bk BK304.out) hb); have n4_ := Aside0.mk (below_step (bl2 HB.out GE303.out GE304.out) hb); clear BK303; clear BK304; clear HB; have HO310 := n0_; have HO313 := n1_; have BK303 := n2_; have BK304 := n3_; have HB := n4_; clear n0_ n1_ n2_ n3_ n4_; (try clear hb); (try clear hb2); (try clear hk); (try clear hi); (try clear ho0); (try clear ho1); obtain ⟨Ao14, co14, eo14⟩ := Kd.R_slice HO310.out; subst eo14; obtain ⟨Ao15, co15, eo15⟩ := Kd.R_slice HO313.out; subst eo15) | ((with_reducible refine gate_callee (f := 57) rfl ?_); refine goesL_ (some 14) rfl rfl Try.func57 (by kernel_rfl) rfl #[.agg #[.int .i64 t306, .int .i64 t307, .slice Ao14 t308.length co14, .slice Ao15 t311.length co15], .string a1] rfl (by (try simp only [List.map_toArray, List.map_cons, List.map_nil]); first | done | rfl | (simp only [List.length_drop, List.length_take]; rfl)) ?_; (with_reducible refine (spec_l12Get.calls k t306 t307 (fun k_ => some k_ = (.slice Ao14 t308.length co14 : Value).ownBlock) (.slice Ao14 t308.length co14) t308 (fun k_ => some k_ = (.slice Ao15 t311.length co15 : Value).ownBlock) (.slice Ao15 t311.length co15) t311 a1 t314 t315 t316 t319 t322 t323 w _ ?side1 ?side2 ?side3 ?side4 ?side5 A6.out).mono ?_); (case side1 => exact bl2 HB.out GE303.out GE304.out); (case side2 => exact Kd.R_tight rfl HO310.out); (case side3 => exact fun k_ e_ => (HO310.out.1 k_ e_.symm)); (case side4 => exact Kd.R_tight rfl HO313.out); (case side5 => exact fun k_ e_ => (HO313.out.1 k_ e_.symm)); rintro e w16 ⟨v317, v320, rfl, ho0, ho1, hb, hkp⟩; refine ⟨_, rfl, ?_⟩; have n0_ := Aside0.mk (blk_kept (bk BK303.out) hkp (fun hs_ => Or.elim hs_ (fun e_ => (fun e_ => (Kd.R_ne HO310.out BK303.out (by decide)) e_) e_) (fun e_ => (fun e_ => (Kd.R_ne HO313.out BK303.out (by decide)) e_) e_))); have n1_ := Aside0.mk (blk_kept (bk BK304.out) hkp (fun hs_ => Or.elim hs_ (fun e_ => (fun e_ => (Kd.R_ne HO310.out BK304.out (by decide)) e_) e_) (fun e_ => (fun e_ => (Kd.R_ne HO313.out BK304.out (by decide)) e_) e_))); have n2_ := Aside0.mk (Kd.R_mono (ok' := fun k_ => some k_ ≠ (v320 : Value).ownBlock) ho0 (fun k_ hk_ => hk_.2)); have n3_ := Aside0.mk (Kd.R_mono (ok' := fun k_ => some k_ ≠ (v317 : Value).ownBlock) ho1 (fun k_ hk_ => hk_.2)); have n4_ := Aside0.mk (hb); clear BK303; clear BK304; clear HB; clear HO310; clear HO313; have BK303 := n0_; have BK304 := n1_; have HO318 := n2_; have HO321 := n3_; have HB := n4_; clear n0_ n1_ n2_ n3_ n4_; (try clear hb); (try clear hkp); (try clear ho0); (try clear ho1); have hcz17_0 : w16.cell? ⟨gb304, 0, none⟩ = some (.int .i64 0) := (blk_cell BK304.out 0).trans rfl; have hcz17_1 : w16.cell? ⟨gb304, 1, none⟩ = some (.int .i64 0) := (blk_cell BK304.out 1).trans rfl; have hcz17_2 : w16.cell? ⟨gb304, 2, none⟩ = some (.slice none 0 0) := (blk_cell BK304.out 2).trans rfl; have hcz17_3 : w16.cell? ⟨gb304, 3, none⟩ = some (.slice none 0 0) := (blk_cell BK304.out 3).trans rfl; have hfz17_0 := blk_frozen BK304.out 0; have hfz17_1 := blk_frozen BK304.out 1; have hfz17_2 := blk_frozen BK304.out 2; have hfz17_3 := blk_frozen BK304.out 3; obtain ⟨Ao18, co18, eo18⟩ := Kd.R_slice HO318.out; subst eo18; obtain ⟨Ao19, co19, eo19⟩ := Kd.R_slice HO321.out; subst eo19))
  refine bodyPost_ret (results_ctt rfl _ _ gb304 28 #[.int .i64 t314, .int .i64 t315, .slice Ao18 t316.length co18, .slice Ao19 t319.length co19] (0, 0) _ rfl (by (with_reducible repeat (first | refine blk_drewN ?_ _ | refine blk_drew ?_ | refine blk_alloc ?_ _)); refine blk_put (cs := #[.int .i64 t314, .int .i64 t315, .slice Ao18 t316.length co18, .slice none 0 0]) ?_ 3 _ rfl; (with_reducible repeat (first | refine blk_drewN ?_ _ | refine blk_drew ?_ | refine blk_alloc ?_ _)); refine blk_put (cs := #[.int .i64 t314, .int .i64 t315, .slice none 0 0, .slice none 0 0]) ?_ 2 _ rfl; (with_reducible repeat (first | refine blk_drewN ?_ _ | refine blk_drew ?_ | refine blk_alloc ?_ _)); refine blk_put (cs := #[.int .i64 t314, .int .i64 0, .slice none 0 0, .slice none 0 0]) ?_ 1 _ rfl; (with_reducible repeat (first | refine blk_drewN ?_ _ | refine blk_drew ?_ | refine blk_alloc ?_ _)); refine blk_put (cs := #[.int .i64 0, .int .i64 0, .slice none 0 0, .slice none 0 0]) ?_ 0 _ rfl; exact bk BK304.out) Try.underlying28 rfl (by kernel_rfl)) rfl ?_
  exact ⟨_, _, by first | rfl | (simp [errW_none, errW_some] <;> rfl) | (simp [*, errW_none, errW_some] <;> rfl), by (with_reducible repeat (first | apply Kd.R_alloc | apply Kd.R_drewN | apply Kd.R_drew)); exact Kd.R_mono (Kd.R_far (p := ⟨gb304, 3, none⟩) (Kd.R_far (p := ⟨gb304, 2, none⟩) (Kd.R_far (p := ⟨gb304, 1, none⟩) (Kd.R_far (p := ⟨gb304, 0, none⟩) (Kd.R_types HO318.out BK304.out (by decide)) (fun _ hk => hk.2) (.int .i64 t314)) (fun _ hk => hk.2) (.int .i64 t315)) (fun _ hk => hk.2) (.slice Ao18 t316.length co18)) (fun _ hk => hk.2) (.slice Ao19 t319.length co19)) (fun _ hk => hk.1), by (with_reducible repeat (first | apply Kd.R_alloc | apply Kd.R_drewN | apply Kd.R_drew)); exact Kd.R_mono (Kd.R_far (p := ⟨gb304, 3, none⟩) (Kd.R_far (p := ⟨gb304, 2, none⟩) (Kd.R_far (p := ⟨gb304, 1, none⟩) (Kd.R_far (p := ⟨gb304, 0, none⟩) (Kd.R_types HO321.out BK304.out (by decide)) (fun _ hk => hk.2) (.int .i64 t314)) (fun _ hk => hk.2) (.int .i64 t315)) (fun _ hk => hk.2) (.slice Ao18 t316.length co18)) (fun _ hk => hk.2) (.slice Ao19 t319.length co19)) (fun _ hk => hk.1), bl2 HB.out GE303.out GE304.out⟩
 ·replace c4 := Bool.eq_false_iff.mpr c4
  subst c4
  have H1 : (some (0, 0, ([] : List (S45)), ([] : List (S45)), (⟨#[]⟩ : ByteArray), false)) = some (r1, r2, r3, r4, r5, r6) := by rw [if_neg (show ¬ (false = true) by decide)] at H; exact H
  clear H
  have H := H1
  clear H1
  simp only [Option.some.injEq, Prod.mk.injEq] at H
  obtain ⟨rfl, rfl, rfl, rfl, rfl, rfl⟩ := H
  go_enter Try.func30, Try.ntmps30
  go_wp2_with (first | ((with_reducible refine gate_dst (N := 2) rfl ?_); refine box_event ?hg (N := 2) ?hd (cs := #[.int .i64 a0_0, .int .i64 a0_1, .slice A0_2 l0_2.length c0_2, .slice A0_3 l0_3.length c0_3]) (t := 28) ?hr ?_; (case hd => rfl); (case hg => rfl); (case hr => first | (go_simp; done) | (go_simp; rfl)); intro gb303 hg w20 hbox hb; have n0_ := Aside0.mk (below_step (bl HB.out) hb); have n1_ := Aside0.mk (hbox); have n2_ := Aside0.mk ((by rw [hg]; exact (below_size (bl HB.out)) : w.heap.size ≤ gb303)); have n3_ := Aside0.mk ((by rw [hg]; exact (below_size (bl HB.out)) : w.heap.size ≤ gb303)); clear HB; have HB := n0_; have BK303 := n1_; have GW303 := n2_; have GE303 := n3_; clear n0_ n1_ n2_ n3_; clear hb hbox hg) | ((with_reducible refine gate_dst (N := 4) rfl ?_); refine box_event ?hg (N := 4) ?hd (cs := #[.int .i64 0, .int .i64 0, .slice none 0 0, .slice none 0 0]) (t := 28) ?hr ?_; (case hd => rfl); (case hg => rfl); (case hr => first | (go_simp; done) | (go_simp; rfl)); intro gb304 hg w21 hbox hb; have n0_ := Aside0.mk (blk_below (g := gb303) (o := .cells #[.int .i64 a0_0, .int .i64 a0_1, .slice A0_2 l0_2.length c0_2, .slice A0_3 l0_3.length c0_3] 28 (0, 0)) (bk BK303.out) hb); have n1_ := Aside0.mk (below_step (bl1 HB.out GE303.out) hb); have n2_ := Aside0.mk (hbox); have n3_ := Aside0.mk ((by rw [hg]; exact (below_size (bl1 HB.out GE303.out)) : w.heap.size ≤ gb304)); have n4_ := Aside0.mk ((by rw [hg]; exact (below_size (bl1 HB.out GE303.out)) : w.heap.size ≤ gb304)); have n5_ := Aside0.mk ((by rw [hg]; exact Nat.ne_of_lt (blk_lt (g := gb303) (o := .cells #[.int .i64 a0_0, .int .i64 a0_1, .slice A0_2 l0_2.length c0_2, .slice A0_3 l0_3.length c0_3] 28 (0, 0)) (bk BK303.out)) : gb303 ≠ gb304)); have n6_ := Aside0.mk ((by rw [hg]; exact Nat.ne_of_gt (blk_lt (g := gb303) (o := .cells #[.int .i64 a0_0, .int .i64 a0_1, .slice A0_2 l0_2.length c0_2, .slice A0_3 l0_3.length c0_3] 28 (0, 0)) (bk BK303.out)) : gb304 ≠ gb303)); clear BK303; clear HB; have BK303 := n0_; have HB := n1_; have BK304 := n2_; have GW304 := n3_; have GE304 := n4_; have NB303_304 := n5_; have NB304_303 := n6_; clear n0_ n1_ n2_ n3_ n4_ n5_ n6_; clear hb hbox hg; have hnb22 := NB303_304.out; have hnc22 := NB304_303.out; have hcz23_0 : w21.cell? ⟨gb303, 0, none⟩ = some (.int .i64 a0_0) := (blk_cell BK303.out 0).trans rfl; have hcz23_1 : w21.cell? ⟨gb303, 1, none⟩ = some (.int .i64 a0_1) := (blk_cell BK303.out 1).trans rfl; have hcz23_2 : w21.cell? ⟨gb303, 2, none⟩ = some (.slice A0_2 l0_2.length c0_2) := (blk_cell BK303.out 2).trans rfl; have hcz23_3 : w21.cell? ⟨gb303, 3, none⟩ = some (.slice A0_3 l0_3.length c0_3) := (blk_cell BK303.out 3).trans rfl; have hfz23_0 := blk_frozen BK303.out 0; have hfz23_1 := blk_frozen BK303.out 1; have hfz23_2 := blk_frozen BK303.out 2; have hfz23_3 := blk_frozen BK303.out 3) | ((with_reducible refine gate_callee (f := 41) rfl ?_); refine goesL_ (some 8) rfl rfl Try.func41 (by kernel_rfl) rfl #[.agg #[.int .i64 a0_0, .int .i64 a0_1, .slice A0_2 l0_2.length c0_2, .slice A0_3 l0_3.length c0_3]] rfl (by (try simp only [List.map_toArray, List.map_cons, List.map_nil]); first | done | rfl | (simp only [List.length_drop, List.length_take]; rfl)) ?_; (with_reducible refine (spec_GoodSegmented.calls k a0_0 a0_1 _ _ l0_2 _ _ l0_3 false _ ?side1 ?side2 ?side3 ?side4 A3.out).mono ?_); (case side1 => exact kc (Kd.C_below HR0_2.out HB.out)); (case side2 => exact HC0_2.out); (case side3 => exact kc (Kd.C_below HR0_3.out HB.out)); (case side4 => exact HC0_3.out); rintro e w24 ⟨rfl, hb⟩; refine ⟨_, rfl, ?_⟩; have n0_ := Aside0.mk (blk_below (g := gb303) (o := .cells #[.int .i64 a0_0, .int .i64 a0_1, .slice A0_2 l0_2.length c0_2, .slice A0_3 l0_3.length c0_3] 28 (0, 0)) (bk BK303.out) hb); have n1_ := Aside0.mk (blk_below (g := gb304) (o := .cells #[.int .i64 0, .int .i64 0, .slice none 0 0, .slice none 0 0] 28 (0, 0)) (bk BK304.out) hb); have n2_ := Aside0.mk (below_step (bl2 HB.out GE303.out GE304.out) hb); clear BK303; clear BK304; clear HB; have BK303 := n0_; have BK304 := n1_; have HB := n2_; clear n0_ n1_ n2_; (try clear hb); (try clear hb2); (try clear hk); (try clear hi); have hcz25_0 : w24.cell? ⟨gb304, 0, none⟩ = some (.int .i64 0) := (blk_cell BK304.out 0).trans rfl; have hcz25_1 : w24.cell? ⟨gb304, 1, none⟩ = some (.int .i64 0) := (blk_cell BK304.out 1).trans rfl; have hcz25_2 : w24.cell? ⟨gb304, 2, none⟩ = some (.slice none 0 0) := (blk_cell BK304.out 2).trans rfl; have hcz25_3 : w24.cell? ⟨gb304, 3, none⟩ = some (.slice none 0 0) := (blk_cell BK304.out 3).trans rfl; have hfz25_0 := blk_frozen BK304.out 0; have hfz25_1 := blk_frozen BK304.out 1; have hfz25_2 := blk_frozen BK304.out 2; have hfz25_3 := blk_frozen BK304.out 3))
  refine bodyPost_ret (results_ctt rfl _ _ gb304 28 #[.int .i64 0, .int .i64 0, .slice none 0 0, .slice none 0 0] (0, 0) _ rfl (by (with_reducible repeat (first | refine blk_drewN ?_ _ | refine blk_drew ?_ | refine blk_alloc ?_ _)); refine blk_put (cs := #[.int .i64 0, .int .i64 0, .slice none 0 0, .slice none 0 0]) ?_ 3 _ rfl; (with_reducible repeat (first | refine blk_drewN ?_ _ | refine blk_drew ?_ | refine blk_alloc ?_ _)); refine blk_put (cs := #[.int .i64 0, .int .i64 0, .slice none 0 0, .slice none 0 0]) ?_ 2 _ rfl; (with_reducible repeat (first | refine blk_drewN ?_ _ | refine blk_drew ?_ | refine blk_alloc ?_ _)); refine blk_put (cs := #[.int .i64 0, .int .i64 0, .slice none 0 0, .slice none 0 0]) ?_ 1 _ rfl; (with_reducible repeat (first | refine blk_drewN ?_ _ | refine blk_drew ?_ | refine blk_alloc ?_ _)); refine blk_put (cs := #[.int .i64 0, .int .i64 0, .slice none 0 0, .slice none 0 0]) ?_ 0 _ rfl; exact bk BK304.out) Try.underlying28 rfl (by kernel_rfl)) rfl ?_
  exact ⟨_, _, by first | rfl | (simp [errW_none, errW_some] <;> rfl) | (simp [*, errW_none, errW_some] <;> rfl), by first | exact Kd.R_nil _ _ _ _ _ | exact Kd.N_nil _ _ _ _ _ | exact Kd.V_nil _ _ _ _ _ | exact Kd.Q_nil _ _ _ _ _ | exact Kd.S_nil _ _ _ _ _, by first | exact Kd.R_nil _ _ _ _ _ | exact Kd.N_nil _ _ _ _ _ | exact Kd.V_nil _ _ _ _ _ | exact Kd.Q_nil _ _ _ _ _ | exact Kd.S_nil _ _ _ _ _, bl2 HB.out GE303.out GE304.out⟩

-- NOT PRINTED: function 86 (impl_Entry_86)

-- NOT PRINTED: function 74 (impl_Entry_74)

-- NOT PRINTED: function 75 (impl_Entry_1)

-- NOT PRINTED: function 50 (impl_Entry_50)

/-! ### impl_within: function 82 -/
def impl_within.f (a0 : Int) (a1 : Int) (a2 : Int) : Option (Bool) := if a1 ≤ a0 then (some (decide (a0 ≤ a2))) else (some false)
set_option maxHeartbeats 8000000 in
set_option maxRecDepth 100000 in
theorem impl_within.calls (a0 : Int) (a1 : Int) (a2 : Int) (r : Bool) (w : World) (h : impl_within.f a0 a1 a2 = some r) :
  Calls Try.prog 82 #[.int .i64 a0, .int .i64 a1, .int .i64 a2] w fun e w' => e = .returned (.bool r) ∧ Drawn0 w w' := by
 have H : (if a1 ≤ a0 then (some (decide (a0 ≤ a2))) else (some false)) = some r := h
 clear h
 by_cases c4 : a1 ≤ a0
 ·rw [if_pos c4] at H
  have c4b0 : decide (a1 ≤ a0) = true := decide_eq_true c4
  clear c4
  obtain rfl := Option.some.inj H
  go_enter Try.func82, Try.ntmps82
  go_wp2
  go_ret
  exact ⟨by first | rfl | (simp; done) | (simp [*]; done), by repeat (first | exact Drawn0.refl _ | apply Drawn0.step)⟩
 ·rw [if_neg c4] at H
  have c4b0 : decide (a1 ≤ a0) = false := decide_eq_false c4
  clear c4
  obtain rfl := Option.some.inj H
  go_enter Try.func82, Try.ntmps82
  go_wp2
  go_ret
  exact ⟨by first | rfl | (simp; done) | (simp [*]; done), by repeat (first | exact Drawn0.refl _ | apply Drawn0.step)⟩

/-! ### impl_isKey: function 76 -/
def impl_isKey.f (a0 : ByteArray) : Option (Bool) := (impl_within.f (a0.size : Int) 1 20).bind fun t324 => (some t324)
set_option maxHeartbeats 8000000 in
set_option maxRecDepth 100000 in
theorem impl_isKey.calls (a0 : ByteArray) (r : Bool) (w : World) (h : impl_isKey.f a0 = some r) :
  Calls Try.prog 76 #[.string a0] w fun e w' => e = .returned (.bool r) ∧ Drawn0 w w' := by
 have H : ((impl_within.f (a0.size : Int) 1 20).bind fun t324 => (some t324)) = some r := h
 clear h
 replace H := Option.bind_eq_some_iff.mp H
 obtain ⟨t324, A20, H⟩ := H
 try dsimp only at H
 have A2 := Aside0.mk A20
 clear A20
 obtain rfl := Option.some.inj H
 go_enter Try.func76, Try.ntmps76
 go_wp2_with (first | ((with_reducible refine gate_callee (f := 82) rfl ?_); refine goesL_ (some 5) rfl rfl Try.func82 (by kernel_rfl) rfl #[.int .i64 (a0.size : Int), .int .i64 1, .int .i64 20] rfl (by (try simp only [List.map_toArray, List.map_cons, List.map_nil]); first | done | rfl | (simp only [List.length_drop, List.length_take]; rfl)) ?_; (with_reducible refine (impl_within.calls (a0.size : Int) 1 20 t324 _ A2.out).mono ?_); rintro e w' ⟨rfl, ⟨nd, rfl⟩⟩; refine ⟨_, rfl, ?_⟩))
 go_ret
 exact ⟨by first | rfl | (simp; done) | (simp [*]; done), by repeat (first | exact Drawn0.refl _ | apply Drawn0.step)⟩

/-! ### impl_isEntry: function 51 -/
def impl_isEntry.f (a0_0 : ByteArray) (a0_1 : ByteArray) : Option (Bool) := (impl_isKey.f a0_0).bind fun t326 => (if t326 = true then (some (decide ((a0_1.size : Int) ≤ 60))) else (some false))
set_option maxHeartbeats 8000000 in
set_option maxRecDepth 100000 in
theorem impl_isEntry.calls (a0_0 : ByteArray) (a0_1 : ByteArray) (r : Bool) (w : World) (h : impl_isEntry.f a0_0 a0_1 = some r) :
  Calls Try.prog 51 #[.agg #[.string a0_0, .string a0_1]] w fun e w' => e = .returned (.bool r) ∧ Below w.heap.size w w' := by
 have hu45 := Try.underlying45
 have HB := Aside0.mk (Below.refl w.heap.size w)
 have H : ((impl_isKey.f a0_0).bind fun t326 => (if t326 = true then (some (decide ((a0_1.size : Int) ≤ 60))) else (some false))) = some r := h
 clear h
 replace H := Option.bind_eq_some_iff.mp H
 obtain ⟨t326, A20, H⟩ := H
 try dsimp only at H
 have A2 := Aside0.mk A20
 clear A20
 by_cases c3 : t326 = true
 ·subst c3
  have H1 : (some (decide ((a0_1.size : Int) ≤ 60))) = some r := by rw [if_pos rfl] at H; exact H
  clear H
  have H := H1
  clear H1
  obtain rfl := Option.some.inj H
  go_enter Try.func51, Try.ntmps51
  go_wp2_with (first | ((with_reducible refine gate_dst (N := 1) rfl ?_); (try (refine gate_guard (by rfl) ?_; dsimp only)); refine box_event ?hg (N := 1) ?hd (cs := #[.string a0_0, .string a0_1]) (t := 45) ?hr ?_; (case hd => rfl); (case hg => rfl); (case hr => first | (go_simp; done) | (go_simp; rfl)); intro gb325 hg w4 hbox hb; have n0_ := Aside0.mk (below_step (bl HB.out) hb); have n1_ := Aside0.mk (hbox); have n2_ := Aside0.mk ((by rw [hg]; exact (below_size (bl HB.out)) : w.heap.size ≤ gb325)); have n3_ := Aside0.mk ((by rw [hg]; exact (below_size (bl HB.out)) : w.heap.size ≤ gb325)); clear HB; have HB := n0_; have BK325 := n1_; have GW325 := n2_; have GE325 := n3_; clear n0_ n1_ n2_ n3_; clear hb hbox hg; have hcz5_0 : w4.cell? ⟨gb325, 0, none⟩ = some (.string a0_0) := (blk_cell BK325.out 0).trans rfl; have hcz5_1 : w4.cell? ⟨gb325, 1, none⟩ = some (.string a0_1) := (blk_cell BK325.out 1).trans rfl; have hfz5_0 := blk_frozen BK325.out 0; have hfz5_1 := blk_frozen BK325.out 1) | ((with_reducible refine gate_callee (f := 76) rfl ?_); refine goesL_ (some 5) rfl rfl Try.func76 (by kernel_rfl) rfl #[.string a0_0] rfl (by (try simp only [List.map_toArray, List.map_cons, List.map_nil]); first | done | rfl | (simp only [List.length_drop, List.length_take]; rfl)) ?_; (with_reducible refine (impl_isKey.calls a0_0 true _ A2.out).mono ?_); rintro e w' ⟨rfl, ⟨nd, rfl⟩⟩; refine ⟨_, rfl, ?_⟩))
  go_ret
  exact ⟨by first | rfl | (simp [errW_none, errW_some] <;> rfl) | (simp [*, errW_none, errW_some] <;> rfl), bl1 HB.out GE325.out⟩
 ·replace c3 := Bool.eq_false_iff.mpr c3
  subst c3
  have H1 : (some false) = some r := by rw [if_neg (show ¬ (false = true) by decide)] at H; exact H
  clear H
  have H := H1
  clear H1
  obtain rfl := Option.some.inj H
  go_enter Try.func51, Try.ntmps51
  go_wp2_with (first | ((with_reducible refine gate_dst (N := 1) rfl ?_); (try (refine gate_guard (by rfl) ?_; dsimp only)); refine box_event ?hg (N := 1) ?hd (cs := #[.string a0_0, .string a0_1]) (t := 45) ?hr ?_; (case hd => rfl); (case hg => rfl); (case hr => first | (go_simp; done) | (go_simp; rfl)); intro gb325 hg w6 hbox hb; have n0_ := Aside0.mk (below_step (bl HB.out) hb); have n1_ := Aside0.mk (hbox); have n2_ := Aside0.mk ((by rw [hg]; exact (below_size (bl HB.out)) : w.heap.size ≤ gb325)); have n3_ := Aside0.mk ((by rw [hg]; exact (below_size (bl HB.out)) : w.heap.size ≤ gb325)); clear HB; have HB := n0_; have BK325 := n1_; have GW325 := n2_; have GE325 := n3_; clear n0_ n1_ n2_ n3_; clear hb hbox hg; have hcz7_0 : w6.cell? ⟨gb325, 0, none⟩ = some (.string a0_0) := (blk_cell BK325.out 0).trans rfl; have hcz7_1 : w6.cell? ⟨gb325, 1, none⟩ = some (.string a0_1) := (blk_cell BK325.out 1).trans rfl; have hfz7_0 := blk_frozen BK325.out 0; have hfz7_1 := blk_frozen BK325.out 1) | ((with_reducible refine gate_callee (f := 76) rfl ?_); refine goesL_ (some 5) rfl rfl Try.func76 (by kernel_rfl) rfl #[.string a0_0] rfl (by (try simp only [List.map_toArray, List.map_cons, List.map_nil]); first | done | rfl | (simp only [List.length_drop, List.length_take]; rfl)) ?_; (with_reducible refine (impl_isKey.calls a0_0 false _ A2.out).mono ?_); rintro e w' ⟨rfl, ⟨nd, rfl⟩⟩; refine ⟨_, rfl, ?_⟩))
  go_ret
  exact ⟨by first | rfl | (simp [errW_none, errW_some] <;> rfl) | (simp [*, errW_none, errW_some] <;> rfl), bl1 HB.out GE325.out⟩

/-! ### impl_isRoom: function 58 -/
def impl_isRoom.f (a0 : Int) : Option (Bool) := (impl_within.f a0 100 2000).bind fun t327 => (some t327)
set_option maxHeartbeats 8000000 in
set_option maxRecDepth 100000 in
theorem impl_isRoom.calls (a0 : Int) (r : Bool) (w : World) (h : impl_isRoom.f a0 = some r) :
  Calls Try.prog 58 #[.int .i64 a0] w fun e w' => e = .returned (.bool r) ∧ Drawn0 w w' := by
 have H : ((impl_within.f a0 100 2000).bind fun t327 => (some t327)) = some r := h
 clear h
 replace H := Option.bind_eq_some_iff.mp H
 obtain ⟨t327, A20, H⟩ := H
 try dsimp only at H
 have A2 := Aside0.mk A20
 clear A20
 obtain rfl := Option.some.inj H
 go_enter Try.func58, Try.ntmps58
 go_wp2_with (first | ((with_reducible refine gate_callee (f := 82) rfl ?_); refine goesL_ (some 4) rfl rfl Try.func82 (by kernel_rfl) rfl #[.int .i64 a0, .int .i64 100, .int .i64 2000] rfl (by (try simp only [List.map_toArray, List.map_cons, List.map_nil]); first | done | rfl | (simp only [List.length_drop, List.length_take]; rfl)) ?_; (with_reducible refine (impl_within.calls a0 100 2000 t327 _ A2.out).mono ?_); rintro e w' ⟨rfl, ⟨nd, rfl⟩⟩; refine ⟨_, rfl, ?_⟩))
 go_ret
 exact ⟨by first | rfl | (simp; done) | (simp [*]; done), by repeat (first | exact Drawn0.refl _ | apply Drawn0.step)⟩

/-! ### impl_weight: function 65 -/
def impl_weight.l0 : Nat → Int → List (S45) → Int → Int → Option (Int)
 | 0, _, _, _, _ => none
 | k + 1, x3, x6, x7, x8 => if x8 < x7 then (if 0 ≤ x8 then (if x8 < (x6.length : Int) then (impl_weight.l0 k (wrap64 (x3 + (wrap64 ((((rd_T45 x6 x8).f0).size : Int) + (((rd_T45 x6 x8).f1).size : Int))))) x6 x7 (wrap64 (x8 + 1))) else (none)) else (none)) else (some x3)
def impl_weight.f (k : Nat) (l0 : List (S45)) : Option (Int) := impl_weight.l0 k 0 l0 (l0.length : Int) 0
theorem impl_weight.mono_l : ∀ k, (∀ y0 y1 y2 y3, LeO (impl_weight.l0 k y0 y1 y2 y3) (impl_weight.l0 (k + 1) y0 y1 y2 y3))
 | 0 => fun _ _ _ _ r h => by simp [impl_weight.l0] at h
 | k + 1 => by
  have ih0 := impl_weight.mono_l k
  ·intro y0 y1 y2 y3
   unfold impl_weight.l0
   repeat' first
   | (with_reducible exact ih0 _ _ _ _)
   | (with_reducible exact LeO.refl _)
   | (with_reducible exact LeO.none _)
   | (with_reducible refine LeO.ite ?_ ?_)
   | (with_reducible refine LeO.bind ?_ (fun _ => ?_))
   | exact ih0 _ _ _ _
   | exact LeO.none _
   | refine LeO.ite ?_ ?_
   | refine LeO.bind ?_ (fun _ => ?_)
theorem impl_weight.mono : ∀ a0 k, LeO (impl_weight.f k a0) (impl_weight.f (k + 1) a0) := by
 intro a0 k
 have ih0 := impl_weight.mono_l k
 unfold impl_weight.f
 repeat' first
   | (with_reducible exact ih0 _ _ _ _)
   | (with_reducible exact LeO.refl _)
   | (with_reducible exact LeO.none _)
   | (with_reducible refine LeO.ite ?_ ?_)
   | (with_reducible refine LeO.bind ?_ (fun _ => ?_))
   | exact ih0 _ _ _ _
   | exact LeO.none _
   | refine LeO.ite ?_ ?_
   | refine LeO.bind ?_ (fun _ => ?_)
set_option maxHeartbeats 8000000 in
set_option maxRecDepth 100000 in
theorem impl_weight.calls (k : Nat) (A0 : Option Addr) (c0 : Nat) (l0 : List (S45)) (r : Int) (w : World) (hr0 : Kd.C k45 w A0 l0.length l0) (hc0 : l0.length ≤ c0) (h : impl_weight.f k l0 = some r) :
  Calls Try.prog 65 #[.slice A0 l0.length c0] w fun e w' => e = .returned (.int .i64 r) ∧ Below w.heap.size w w' := by
 have hu45 := Try.underlying45
 have HR0 := Aside0.mk hr0
 have HC0 := Aside0.mk hc0
 clear hr0 hc0
 have HB := Aside0.mk (Below.refl w.heap.size w)
 have H : (impl_weight.l0 k 0 l0 (l0.length : Int) 0) = some r := h
 clear h
 have H' := Aside0.mk H
 clear H
 go_enter Try.func65, Try.ntmps65
 go_wp2
 go_loopg [3, 8] k (fun kq v3 v8 w' => ∃ (x3_1 : Int) (x8_1 : Int), v3 = .int .i64 x3_1 ∧ v8 = .int .i64 x8_1 ∧ Aside0 (impl_weight.l0 kq x3_1 l0 (l0.length : Int) x8_1 = some r) ∧ Aside0 (kq ≤ k) ∧ Aside0 (Below w.heap.size w w'))
 case atStart => exact ⟨(0), (0), (by first | rfl | (simp; done) | (simp [*]; done)), (by first | rfl | (simp; done) | (simp [*]; done)), H', ⟨Nat.le_refl _⟩, ⟨bl HB.out⟩⟩
 case round =>
  clear H'
  obtain ⟨x3_1, x8_1, rfl, rfl, HA, HK1, HB⟩ := hrel
  cases gk with
  | zero => exact absurd HA.out (by simp [impl_weight.l0])
  | succ k1 =>
   have H := HA.out
   clear HA
   simp only [impl_weight.l0] at H
   by_cases c2 : x8_1 < (l0.length : Int)
   ·rw [if_pos c2] at H
    have c2b0 : decide (x8_1 < (l0.length : Int)) = true := decide_eq_true c2
    clear c2
    by_cases c3 : 0 ≤ x8_1
    ·rw [if_pos c3] at H
     have c3b0 : decide (0 ≤ x8_1) = true := decide_eq_true c3
     clear c3
     by_cases c4 : x8_1 < (l0.length : Int)
     ·rw [if_pos c4] at H
      have c4b0 : decide (x8_1 < (l0.length : Int)) = true := decide_eq_true c4
      clear c4
      have H' := Aside0.mk H
      clear H
      have p328 : 0 ≤ (x8_1 : Int) := of_decide_eq_true (by first | (with_reducible assumption) | assumption)
      have q328 : x8_1 < (l0.length : Int) := of_decide_eq_true (by first | (with_reducible assumption) | assumption)
      obtain ⟨ad328, e328, hx328_0, hx328_1⟩ := at_T45 HR0.out x8_1 p328 q328
      cases e328
      replace hx328_0 := (HB.out.cell (World.block_lt_of_cell? w _ hx328_0)).trans hx328_0
      replace hx328_1 := (HB.out.cell (World.block_lt_of_cell? w _ hx328_1)).trans hx328_1
      replace p328 := eq_true p328
      replace q328 := eq_true q328
      go_wp2_with (first | ((with_reducible refine gate_dst (N := 5) rfl ?_); refine box_event ?hg (N := 5) ?hd (cs := #[.string (⟨#[]⟩ : ByteArray), .string (⟨#[]⟩ : ByteArray)]) (t := 45) ?hr ?_; (case hd => rfl); (case hg => rfl); (case hr => first | (go_simp; done) | (go_simp; rfl)); intro gb329 hg w5 hbox hb; have n0_ := Aside0.mk (below_step (bl HB.out) hb); have n1_ := Aside0.mk (hbox); have n2_ := Aside0.mk ((by rw [hg]; exact (below_size (bl HB.out)) : w.heap.size ≤ gb329)); have n3_ := Aside0.mk ((by rw [hg]; exact (below_size (bl HB.out)) : w.heap.size ≤ gb329)); clear HB; have HB := n0_; have BK329 := n1_; have GW329 := n2_; have GE329 := n3_; clear n0_ n1_ n2_ n3_; clear hb hbox hg; have hcz6_0 : w5.cell? ⟨gb329, 0, none⟩ = some (.string (⟨#[]⟩ : ByteArray)) := (blk_cell BK329.out 0).trans rfl; have hcz6_1 : w5.cell? ⟨gb329, 1, none⟩ = some (.string (⟨#[]⟩ : ByteArray)) := (blk_cell BK329.out 1).trans rfl; have hfz6_0 := blk_frozen BK329.out 0; have hfz6_1 := blk_frozen BK329.out 1))
      go_roundg k1
      case measure => have := HK1.out; omega
      case rel => exact ⟨(wrap64 (x3_1 + (wrap64 ((((rd_T45 l0 x8_1).f0).size : Int) + (((rd_T45 l0 x8_1).f1).size : Int))))), (wrap64 (x8_1 + 1)), (by first | rfl | (simp; done) | (simp [*]; done)), (by first | rfl | (simp; done) | (simp [*]; done)), H', ⟨by have := HK1.out; omega⟩, ⟨bl1 HB.out GE329.out⟩⟩
     ·rw [if_neg c4] at H
      exact absurd H (by simp)
    ·rw [if_neg c3] at H
     exact absurd H (by simp)
   ·rw [if_neg c2] at H
    have c2b0 : decide (x8_1 < (l0.length : Int)) = false := decide_eq_false c2
    clear c2
    obtain rfl := Option.some.inj H
    go_wp2
    go_ret
    exact ⟨by first | rfl | (simp [errW_none, errW_some] <;> rfl) | (simp [*, errW_none, errW_some] <;> rfl), bl HB.out⟩

end Go.Proofs.Ytfopmaiednikhaa.PFnExactGetEntry
