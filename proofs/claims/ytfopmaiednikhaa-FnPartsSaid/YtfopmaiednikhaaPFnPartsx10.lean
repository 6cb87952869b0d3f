-- written by a program of this session (wip/tool)
import Derived.Test.YtfopmaiednikhaaPFnPartsx0
import Derived.Test.YtfopmaiednikhaaPFnPartsx2
import Derived.Test.YtfopmaiednikhaaPFnPartsx3
import Derived.Test.YtfopmaiednikhaaPFnPartsx4
import Derived.Test.YtfopmaiednikhaaPFnPartsx5
import Derived.Test.YtfopmaiednikhaaPFnPartsx6
import Derived.Test.YtfopmaiednikhaaPFnPartsx7
import Derived.Test.YtfopmaiednikhaaVOwn0
import Derived.Test.YtfopmaiednikhaaVOwnOpen
import Derived.WalkKit
import Derived.BigCall
import Derived.Lib.SliceRun
import Derived.Deep.RegionLaw
import Derived.Maps.OwnSet
import Derived.Maps.OwnOps
import Derived.Maps.Views
import Derived.Test.YtfopmaiednikhaaVWZeros
import Derived.Test.YtfopmaiednikhaaVWArr
import Derived.Test.YtfopmaiednikhaaVOwnShort
import Derived.Test.YtfopmaiednikhaaOwnSq
namespace Go.Proofs.Ytfopmaiednikhaa.PFnParts
open Go.RowKit Go.Proofs.YtfopmaiednikhaaW.PrintWords Go.Proofs.YtfopmaiednikhaaW.PrintLast Go.Proofs.YtfopmaiednikhaaW.PrintMore Go.Shelf Go.Proofs.YtfopmaiednikhaaOwn
attribute [local go_sem] max2_int min2_int max_two min_two max_three min_three max_four min_four   -- for this text's walks alone
set_option linter.unusedVariables false
set_option linter.unusedSimpArgs false

/-! ### spec_l12Get: function 57 -/
def spec_l12Get.f (k : Nat) (a0_0 : Int) (a0_1 : Int) (l0_2 : List (S45)) (l0_3 : List (S45)) (a1 : ByteArray) : Option (Int × Int × (List (S45)) × (List (S45)) × ByteArray × Bool) := (spec_l12At.f k l0_3 a1).bind fun t337 => (if t337 ≥ 0 then (if 0 ≤ t337 then (if t337 < (l0_3.length : Int) then ((spec_l12Without.f l0_3 t337).bind fun t340 => ((spec_l12Ahead.f t340 ((rd_T45 l0_3 t337).f0) ((rd_T45 l0_3 t337).f1)).bind fun t343 => (some (a0_0, a0_1, l0_2, t343, (rd_T45 l0_3 t337).f1, true)))) else (none)) else (none)) else ((spec_l12At.f k l0_2 a1).bind fun t346 => (if t346 < 0 then (some (a0_0, a0_1, l0_2, l0_3, (⟨#[]⟩ : ByteArray), false)) else (if 0 ≤ t346 then (if t346 < (l0_2.length : Int) then ((spec_l12Without.f l0_2 t346).bind fun t349 => ((spec_l12Ahead.f l0_3 ((rd_T45 l0_2 t346).f0) ((rd_T45 l0_2 t346).f1)).bind fun t352 => ((spec_l12Fit.f k a0_0 a0_1 t349 t352).bind fun bt355 => (some (bt355.1, bt355.2.1, bt355.2.2.1, bt355.2.2.2.1, (rd_T45 l0_2 t346).f1, true))))) else (none)) else (none)))))
theorem spec_l12Get.mono : ∀ a0 a1 a2 a3 a4 k, LeO (spec_l12Get.f k a0 a1 a2 a3 a4) (spec_l12Get.f (k + 1) a0 a1 a2 a3 a4) := by
 intro a0 a1 a2 a3 a4 k
 unfold spec_l12Get.f
 repeat' first
   | (with_reducible exact spec_l12At.mono _ _ _)
   | (with_reducible exact spec_l12Fit.mono _ _ _ _ _)
   | (with_reducible exact LeO.refl _)
   | (with_reducible exact LeO.none _)
   | (with_reducible refine LeO.ite ?_ ?_)
   | (with_reducible refine LeO.bind ?_ (fun _ => ?_))
   | exact spec_l12At.mono _ _ _
   | exact spec_l12Fit.mono _ _ _ _ _
   | exact LeO.none _
   | refine LeO.ite ?_ ?_
   | refine LeO.bind ?_ (fun _ => ?_)
def spec_l12Get.T4 : Bool × List (List Nat × List Nat) := (true, [([], []), ([0], [0]), ([], []), ([1, 2], [1, 2]), ([], []), ([3, 4, 3], [3, 4]), ([0, 1, 2, 3, 4, 5], []), ([6, 5, 5, 0, 1, 2, 3, 4, 5], [5, 6])])
def spec_l12Get.B4 : List Nat := [0, 1, 0, 7, 0, 31, 63, 127]
theorem spec_l12Get.tab4 : rtab .any (opsOf Try.f57 4) = spec_l12Get.T4 := by kernel_rfl
theorem spec_l12Get.bits4 : waitsOk spec_l12Get.T4.2 spec_l12Get.B4 = true := by kernel_rfl
set_option maxHeartbeats 8000000 in
set_option maxRecDepth 100000 in
theorem spec_l12Get.calls (k : Nat) (a0_0 : Int) (a0_1 : Int) (P0_2_ : Nat → Prop) (u9000_ : Value) (l0_2 : List (S45)) (P0_3_ : Nat → Prop) (u9001_ : Value) (l0_3 : List (S45)) (a1 : ByteArray) (r1 : Int) (r2 : Int) (r3 : List (S45)) (r4 : List (S45)) (r5 : ByteArray) (r6 : Bool) (w0 w : World) (hB : Below w0.heap.size w0 w) (ho0_2 : Kd.R k45 45 w w0.heap.size P0_2_ u9000_ l0_2) (hp0_2_0_3 : ∀ k_, P0_2_ k_ → ¬ P0_3_ k_) (ho0_3 : Kd.R k45 45 w w0.heap.size P0_3_ u9001_ l0_3) (hp0_3_0_2 : ∀ k_, P0_3_ k_ → ¬ P0_2_ k_) (h : spec_l12Get.f k a0_0 a0_1 l0_2 l0_3 a1 = some (r1, r2, r3, r4, r5, r6)) :
  Calls Try.prog 57 #[.agg #[.int .i64 a0_0, .int .i64 a0_1, u9000_, u9001_], .string a1] w fun e w' => ∃ v2_ v3_ : Value, e = .returned (.tuple #[.agg #[.int .i64 r1, .int .i64 r2, v2_, v3_], .string r5, .bool r6]) ∧ Kd.R k45 45 w' w0.heap.size (fun k_ => ((P0_2_ k_ ∨ P0_3_ k_) ∨ w.heap.size ≤ k_) ∧ some k_ ≠ (v3_ : Value).ownBlock) v2_ r3 ∧ Kd.R k45 45 w' w0.heap.size (fun k_ => ((P0_2_ k_ ∨ P0_3_ k_) ∨ w.heap.size ≤ k_) ∧ some k_ ≠ (v2_ : Value).ownBlock) v3_ r4 ∧ Below w0.heap.size w0 w' ∧ Kept w w' (fun k_ => P0_2_ k_ ∨ P0_3_ k_) := by
 have hu28 := Try.underlying28
 have hu45 := Try.underlying45
 have HO0_2 := ak (show Kd.R k45 45 w w0.heap.size (fun k_ => ((P0_2_ k_ ∨ P0_3_ k_) ∨ w.heap.size ≤ k_) ∧ some k_ ≠ (u9001_ : Value).ownBlock) u9000_ l0_2 from Kd.R_mono ho0_2 (fun k_ hk => ⟨(.inl (.inl hk)), fun e_ => hp0_2_0_3 k_ hk (ho0_3.1 k_ e_.symm)⟩))
 have HO0_3 := ak (show Kd.R k45 45 w w0.heap.size (fun k_ => ((P0_2_ k_ ∨ P0_3_ k_) ∨ w.heap.size ≤ k_) ∧ some k_ ≠ (u9000_ : Value).ownBlock) u9001_ l0_3 from Kd.R_mono ho0_3 (fun k_ hk => ⟨(.inl (.inr hk)), fun e_ => hp0_3_0_2 k_ hk (ho0_2.1 k_ e_.symm)⟩))
 have HK := ak (Kept.refl w (fun k_ => P0_2_ k_ ∨ P0_3_ k_))
 have HW0 := ak hB.size
 have HB := ak hB
 clear hB
 have H : ((spec_l12At.f k l0_3 a1).bind fun t337 => (if t337 ≥ 0 then (if 0 ≤ t337 then (if t337 < (l0_3.length : Int) then ((spec_l12Without.f l0_3 t337).bind fun t340 => ((spec_l12Ahead.f t340 ((rd_T45 l0_3 t337).f0) ((rd_T45 l0_3 t337).f1)).bind fun t343 => (some (a0_0, a0_1, l0_2, t343, (rd_T45 l0_3 t337).f1, true)))) else (none)) else (none)) else ((spec_l12At.f k l0_2 a1).bind fun t346 => (if t346 < 0 then (some (a0_0, a0_1, l0_2, l0_3, (⟨#[]⟩ : ByteArray), false)) else (if 0 ≤ t346 then (if t346 < (l0_2.length : Int) then ((spec_l12Without.f l0_2 t346).bind fun t349 => ((spec_l12Ahead.f l0_3 ((rd_T45 l0_2 t346).f0) ((rd_T45 l0_2 t346).f1)).bind fun t352 => ((spec_l12Fit.f k a0_0 a0_1 t349 t352).bind fun bt355 => (some (bt355.1, bt355.2.1, bt355.2.2.1, bt355.2.2.2.1, (rd_T45 l0_2 t346).f1, true))))) else (none)) else (none)))))) = some (r1, r2, r3, r4, r5, r6) := h
 clear h
 replace H := Option.bind_eq_some_iff.mp H
 obtain ⟨t337, A30, H⟩ := H
 try dsimp only at H
 have A3 := ak A30
 clear A30
 by_cases c4 : t337 ≥ 0
 ·rw [if_pos c4] at H
  have c4b0 : decide (0 ≤ t337) = true := decide_eq_true c4
  clear c4
  by_cases c5 : 0 ≤ t337
  ·rw [if_pos c5] at H
   have c5b0 : decide (0 ≤ t337) = true := decide_eq_true c5
   clear c5
   by_cases c6 : t337 < (l0_3.length : Int)
   ·rw [if_pos c6] at H
    have c6b0 : decide (t337 < (l0_3.length : Int)) = true := decide_eq_true c6
    clear c6
    replace H := Option.bind_eq_some_iff.mp H
    obtain ⟨t340, A70, H⟩ := H
    try dsimp only at H
    have A7 := ak A70
    clear A70
    replace H := Option.bind_eq_some_iff.mp H
    obtain ⟨t343, A80, H⟩ := H
    try dsimp only at H
    have A8 := ak A80
    clear A80
    simp only [Option.some.injEq, Prod.mk.injEq] at H
    obtain ⟨rfl, rfl, rfl, rfl, rfl, rfl⟩ := H
    obtain ⟨Ao9, co9, eo9⟩ := Kd.R_slice HO0_2.out
    subst eo9
    obtain ⟨Ao10, co10, eo10⟩ := Kd.R_slice HO0_3.out
    subst eo10
    go_enter Try.func57, Try.ntmps57
    try go_wp2_with (first | (refine bE 2 #[.int .i64 a0_0, .int .i64 a0_1, .slice Ao9 l0_2.length co9, .slice Ao10 l0_3.length co10] 28 ?_; intro gb335 hg w11 hbox hb; replace HO0_2 := ak (Kd.R_below (kr HO0_2.out) hb); replace HO0_3 := ak (Kd.R_below (kr HO0_3.out) hb); have BK335 := ak hbox; have GW335 := gk hg (kp HK.out); replace HK := ak (Kept.below (S := (fun k_ => P0_2_ k_ ∨ P0_3_ k_)) (kp HK.out) hb); have GE335 := gs hg (bl HB.out); replace HB := ak (below_step (bl HB.out) hb); clear hb hbox hg) | (refine bE 4 #[.int .i64 0, .int .i64 0, .slice none 0 0, .slice none 0 0] 28 ?_; intro gb336 hg w12 hbox hb; replace HO0_2 := ak (Kd.R_below (kr HO0_2.out) hb); replace HO0_3 := ak (Kd.R_below (kr HO0_3.out) hb); have BK336 := ak hbox; have GW336 := gk hg (kp1 HK.out GW335.out); replace HK := ak (Kept.below (S := (fun k_ => P0_2_ k_ ∨ P0_3_ k_)) (kp1 HK.out GW335.out) hb); have GE336 := gs hg (bl1 HB.out GE335.out); replace HB := ak (below_step (bl1 HB.out GE335.out) hb); have NB335_336 := nl hg BK335.out; have NB336_335 := ng hg BK335.out; replace BK335 := ak (blk_below (bk BK335.out) hb); clear hb hbox hg; have hnb13 := NB335_336.out; have hnc13 := NB336_335.out; obtain ⟨hcz14_0, hcz14_1, hcz14_2, hcz14_3, hfz14_0, hfz14_1, hfz14_2, hfz14_3⟩ := b4 BK335.out) | (refine gL 43 Try.func43 (some 14) #[.slice Ao10 l0_3.length co10, .string a1] ?_; (with_reducible refine (spec_l12At.calls k _ _ l0_3 a1 t337 _ ?side1 ?side2 A3.out).mono ?_); (case side1 => exact kc (Kd.R_reads' HO0_3.out).2.2); (case side2 => exact (Kd.R_reads' HO0_3.out).2.1); rintro e w15 ⟨rfl, hb⟩; refine ⟨_, rfl, ?_⟩; replace HO0_2 := ak (Kd.R_below (kr HO0_2.out) hb); replace HO0_3 := ak (Kd.R_below (kr HO0_3.out) hb); replace BK335 := ak (blk_below (bk BK335.out) hb); replace BK336 := ak (blk_below (bk BK336.out) hb); replace HK := ak (Kept.below (S := (fun k_ => P0_2_ k_ ∨ P0_3_ k_)) (kp2 HK.out GW335.out GW336.out) hb); replace HB := ak (below_step (bl2 HB.out GE335.out GE336.out) hb); clear hb; obtain ⟨hcz16_0, hcz16_1, hcz16_2, hcz16_3, hfz16_0, hfz16_1, hfz16_2, hfz16_3⟩ := b4 BK335.out; have p338 : 0 ≤ (t337 : Int) := od; have q338 : t337 < (l0_3.length : Int) := od; obtain ⟨ad338, e338, hx338_0, hx338_1⟩ := at_T45 (Kd.R_reads' HO0_3.out).2.2 t337 p338 q338; cases e338; replace p338 := eq_true p338; replace q338 := eq_true q338) | (refine bE 8 #[.string (⟨#[]⟩ : ByteArray), .string (⟨#[]⟩ : ByteArray)] 45 ?_; intro gb339 hg w17 hbox hb; replace HO0_2 := ak (Kd.R_below (Kd.R_elderB (kr HO0_2.out) gb339 (Nat.le_of_eq hg.symm)) hb); replace HO0_3 := ak (Kd.R_below (Kd.R_elderB (kr HO0_3.out) gb339 (Nat.le_of_eq hg.symm)) hb); have BK339 := ak hbox; have GW339 := gk hg (kp2 HK.out GW335.out GW336.out); replace HK := ak (Kept.below (S := (fun k_ => P0_2_ k_ ∨ P0_3_ k_)) (kp2 HK.out GW335.out GW336.out) hb); have GE339 := gs hg (bl2 HB.out GE335.out GE336.out); replace HB := ak (below_step (bl2 HB.out GE335.out GE336.out) hb); have NB335_339 := nl hg BK335.out; have NB339_335 := ng hg BK335.out; replace BK335 := ak (blk_below (bk BK335.out) hb); have NB336_339 := nl hg BK336.out; have NB339_336 := ng hg BK336.out; replace BK336 := ak (blk_below (bk BK336.out) hb); clear hb hbox hg; have hnb18 := NB339_335.out; have hnc18 := NB335_339.out; have hnb19 := NB339_336.out; have hnc19 := NB336_339.out; obtain ⟨hcz20_0, hcz20_1, hfz20_0, hfz20_1⟩ := b2 BK339.out))
    have n0_ : Aside0 (Kd.R k45 45 ((w17.setCell ⟨gb339, 0, none⟩ (.string ((rd_T45 l0_3 t337).f0))).setCell ⟨gb339, 1, none⟩ (.string ((rd_T45 l0_3 t337).f1))) w0.heap.size (fun k_ => ((P0_2_ k_ ∨ P0_3_ k_) ∨ w.heap.size ≤ k_) ∧ some k_ ≠ (.slice (some ad338) l0_3.length co10 : Value).ownBlock ∧ k_ ≠ gb339) (.slice Ao9 l0_2.length co9) l0_2) := ⟨by (with_reducible repeat (first | apply Kd.R_alloc | apply Kd.R_drewN | apply Kd.R_drew)); exact Kd.R_mono (Kd.R_far (p := ⟨gb339, 1, none⟩) (Kd.R_far (p := ⟨gb339, 0, none⟩) (Kd.R_mono HO0_2.out (fun k_ hk => (⟨hk, hk.2⟩ : _ ∧ k_ ≠ gb339))) (fun _ hk => hk.2) (.string ((rd_T45 l0_3 t337).f0))) (fun _ hk => hk.2) (.string ((rd_T45 l0_3 t337).f1))) (fun _ hk => ⟨hk.1.1.1, ⟨hk.1.1.2, hk.1.2⟩⟩)⟩
    have n1_ : Aside0 (Kd.R k45 45 ((w17.setCell ⟨gb339, 0, none⟩ (.string ((rd_T45 l0_3 t337).f0))).setCell ⟨gb339, 1, none⟩ (.string ((rd_T45 l0_3 t337).f1))) w0.heap.size (fun k_ => ((P0_2_ k_ ∨ P0_3_ k_) ∨ w.heap.size ≤ k_) ∧ some k_ ≠ (.slice Ao9 l0_2.length co9 : Value).ownBlock ∧ k_ ≠ gb339) (.slice (some ad338) l0_3.length co10) l0_3) := ⟨by (with_reducible repeat (first | apply Kd.R_alloc | apply Kd.R_drewN | apply Kd.R_drew)); exact Kd.R_mono (Kd.R_far (p := ⟨gb339, 1, none⟩) (Kd.R_far (p := ⟨gb339, 0, none⟩) (Kd.R_mono HO0_3.out (fun k_ hk => (⟨hk, hk.2⟩ : _ ∧ k_ ≠ gb339))) (fun _ hk => hk.2) (.string ((rd_T45 l0_3 t337).f0))) (fun _ hk => hk.2) (.string ((rd_T45 l0_3 t337).f1))) (fun _ hk => ⟨hk.1.1.1, ⟨hk.1.1.2, hk.1.2⟩⟩)⟩
    have n2_ : Aside0 (((w17.setCell ⟨gb339, 0, none⟩ (.string ((rd_T45 l0_3 t337).f0))).setCell ⟨gb339, 1, none⟩ (.string ((rd_T45 l0_3 t337).f1))).heap[gb335]? = some (.cells #[.int .i64 a0_0, .int .i64 a0_1, .slice Ao9 l0_2.length co9, .slice (some ad338) l0_3.length co10] 28 (0, 0))) := ⟨by (with_reducible repeat (first | refine blk_drewN ?_ _ | refine blk_drew ?_ | refine blk_alloc ?_ _)); refine blk_far ?_ NB335_339.out _; (with_reducible repeat (first | refine blk_drewN ?_ _ | refine blk_drew ?_ | refine blk_alloc ?_ _)); refine blk_far ?_ NB335_339.out _; exact bk BK335.out⟩
    have n3_ : Aside0 (((w17.setCell ⟨gb339, 0, none⟩ (.string ((rd_T45 l0_3 t337).f0))).setCell ⟨gb339, 1, none⟩ (.string ((rd_T45 l0_3 t337).f1))).heap[gb336]? = some (.cells #[.int .i64 0, .int .i64 0, .slice none 0 0, .slice none 0 0] 28 (0, 0))) := ⟨by (with_reducible repeat (first | refine blk_drewN ?_ _ | refine blk_drew ?_ | refine blk_alloc ?_ _)); refine blk_far ?_ NB336_339.out _; (with_reducible repeat (first | refine blk_drewN ?_ _ | refine blk_drew ?_ | refine blk_alloc ?_ _)); refine blk_far ?_ NB336_339.out _; exact bk BK336.out⟩
    have n4_ : Aside0 (((w17.setCell ⟨gb339, 0, none⟩ (.string ((rd_T45 l0_3 t337).f0))).setCell ⟨gb339, 1, none⟩ (.string ((rd_T45 l0_3 t337).f1))).heap[gb339]? = some (.cells #[.string ((rd_T45 l0_3 t337).f0), .string ((rd_T45 l0_3 t337).f1)] 45 (0, 0))) := ⟨by (with_reducible repeat (first | refine blk_drewN ?_ _ | refine blk_drew ?_ | refine blk_alloc ?_ _)); refine blk_put (cs := #[.string ((rd_T45 l0_3 t337).f0), .string (⟨#[]⟩ : ByteArray)]) ?_ 1 _ rfl; (with_reducible repeat (first | refine blk_drewN ?_ _ | refine blk_drew ?_ | refine blk_alloc ?_ _)); refine blk_put (cs := #[.string (⟨#[]⟩ : ByteArray), .string (⟨#[]⟩ : ByteArray)]) ?_ 0 _ rfl; exact bk BK339.out⟩
    have n5_ : Aside0 (Kept w ((w17.setCell ⟨gb339, 0, none⟩ (.string ((rd_T45 l0_3 t337).f0))).setCell ⟨gb339, 1, none⟩ (.string ((rd_T45 l0_3 t337).f1))) (fun k_ => P0_2_ k_ ∨ P0_3_ k_)) := ⟨by repeat (first | (with_reducible first | exact HK.out | apply Kept.alloc | apply Kept.drewN | apply Kept.drew | refine Kept.setCell ?_ (.inr GW335.out) _ | refine Kept.setCell ?_ (.inr GW336.out) _ | refine Kept.setCell ?_ (.inr GW339.out) _) | exact HK.out)⟩
    have n6_ : Aside0 (Below w0.heap.size w0 ((w17.setCell ⟨gb339, 0, none⟩ (.string ((rd_T45 l0_3 t337).f0))).setCell ⟨gb339, 1, none⟩ (.string ((rd_T45 l0_3 t337).f1)))) := ⟨bl3 HB.out GE335.out GE336.out GE339.out⟩
    (try clear HO0_2)
    (try clear HO0_3)
    (try clear BK335)
    (try clear BK336)
    (try clear BK339)
    (try clear HK)
    (try clear HB)
    generalize ((w17.setCell ⟨gb339, 0, none⟩ (.string ((rd_T45 l0_3 t337).f0))).setCell ⟨gb339, 1, none⟩ (.string ((rd_T45 l0_3 t337).f1))) = w21 at n0_ n1_ n2_ n3_ n4_ n5_ n6_ ⊢
    have HO0_2 := n0_
    have HO0_3 := n1_
    have BK335 := n2_
    have BK336 := n3_
    have BK339 := n4_
    have HK := n5_
    have HB := n6_
    clear n0_ n1_ n2_ n3_ n4_ n5_ n6_
    replace HO0_2 := ak (Kd.R_drew HO0_2.out)
    replace HO0_3 := ak (Kd.R_drew HO0_3.out)
    replace BK335 := ak (blk_drew BK335.out)
    replace BK336 := ak (blk_drew BK336.out)
    replace BK339 := ak (blk_drew BK339.out)
    replace HK := ak (Kept.drew HK.out)
    replace HB := ak (below_drew1 HB.out)
    refine start_ (n := 8) (S := fun w' => w'.cell? ⟨gb335, 0, none⟩ = some (.int .i64 a0_0) ∧ w'.cell? ⟨gb335, 1, none⟩ = some (.int .i64 a0_1) ∧ w'.cell? ⟨gb335, 2, none⟩ = some (.slice Ao9 l0_2.length co9) ∧ w'.cell? ⟨gb335, 3, none⟩ = some (.slice (some ad338) l0_3.length co10) ∧ w'.cell? ⟨gb339, 0, none⟩ = some (.string ((rd_T45 l0_3 t337).f0)) ∧ w'.cell? ⟨gb339, 1, none⟩ = some (.string ((rd_T45 l0_3 t337).f1))) (ds := [7]) #[false, false, false, false, false, false, false, false] (by kernel_rfl) rfl rfl ⟨(blk_cell BK335.out 0).trans rfl, (blk_cell BK335.out 1).trans rfl, (blk_cell BK335.out 2).trans rfl, (blk_cell BK335.out 3).trans rfl, (blk_cell BK339.out 0).trans rfl, (blk_cell BK339.out 1).trans rfl⟩ (fun hHeld => ?_); refine with_tabW spec_l12Get.tab4 spec_l12Get.bits4 (fun HT_ HW_ => ?_)
    generalize w21.drew = w22 at HO0_2 HO0_3 BK335 BK336 BK339 HK HB hHeld ⊢
    refine pu 0 (some 22) HT_ ?_
    refine pu 2 (some 24) HT_ ?_
    refine tk 1 (some 23) HT_ HW_ hHeld ?_
    refine tk 4 (some 26) HT_ HW_ hHeld ?_
    refine on 3 (some 25) HT_ (fun K hK => ?_)
    refine gO Try.func44 #[.slice (some ad338) l0_3.length co10, .int .i64 t337] ?_
    with_reducible refine (spec_l12Without.calls _ _ l0_3 t337 t340 _ ?side1 ?side2 A7.out).mono ?_
    (case side1 => exact kc (Kd.R_reads' HO0_3.out).2.2)
    (case side2 => exact (Kd.R_reads' HO0_3.out).2.1)
    rintro e w23 ⟨v341, rfl, ho0, hb⟩
    refine ⟨_, rfl, ?_⟩
    have HO342 := ak (Kd.R_lower (Kd.R_newB (Kd.R_new' (Kd.R_new' (Kd.R_newM (M := fun k_ => ((P0_2_ k_ ∨ P0_3_ k_) ∨ w.heap.size ≤ k_)) ho0 (kp3 HK.out GW335.out GW336.out GW339.out).1 (fun k_ h_ => .inr h_)) (Kd.R_lt (kr HO0_2.out))) (Kd.R_lt (kr HO0_3.out))) (bk BK339.out)) (below_size (bl3 HB.out GE335.out GE336.out GE339.out)))
    replace HO0_2 := ak (Kd.R_elder' (kr HO0_2.out) (Kd.R_base ho0) hb)
    replace HO0_3 := ak (Kd.R_elder' (kr HO0_3.out) (Kd.R_base ho0) hb)
    replace BK335 := ak (blk_below (bk BK335.out) hb)
    replace BK336 := ak (blk_below (bk BK336.out) hb)
    replace BK339 := ak (blk_below (bk BK339.out) hb)
    replace HK := ak (Kept.below (S := (fun k_ => P0_2_ k_ ∨ P0_3_ k_)) (kp3 HK.out GW335.out GW336.out GW339.out) hb)
    replace HB := ak (below_step (bl3 HB.out GE335.out GE336.out GE339.out) hb)
    clear hb
    (try clear hb2)
    (try clear hk)
    (try clear hi)
    clear ho0
    obtain ⟨Ao24, co24, eo24⟩ := Kd.R_slice HO342.out
    (first | subst eo24 | (injection eo24 with f1_ f2_ f3_; have f4_ := f1_.symm; have f5_ := f3_.symm; clear f1_ f2_ f3_; subst f4_; subst f5_))
    refine hK.out _ _ ⟨(blk_cell BK335.out 0).trans rfl, (blk_cell BK335.out 1).trans rfl, (blk_cell BK335.out 2).trans rfl, (blk_cell BK335.out 3).trans rfl, (blk_cell BK339.out 0).trans rfl, (blk_cell BK339.out 1).trans rfl⟩ (fun hHeld => ?_)
    clear hK K
    refine norm_ (a' := ?_) ?_ ?_
    rotate_left
    ·show Act.put _ (some 25) _ = _
     simp only [Act.put, List.setIfInBounds_toArray, List.set_cons_zero, List.set_cons_succ, i64_w, i32_w]
     rfl
    refine on 5 (some 27) HT_ (fun K hK => ?_)
    refine gO Try.func80 #[.slice Ao24 t340.length co24, .agg #[.string ((rd_T45 l0_3 t337).f0), .string ((rd_T45 l0_3 t337).f1)]] ?_
    with_reducible refine (spec_l12Ahead.calls _ _ t340 ((rd_T45 l0_3 t337).f0) ((rd_T45 l0_3 t337).f1) t343 _ ?side1 ?side2 A8.out).mono ?_
    (case side1 => exact kc (Kd.R_reads' HO342.out).2.2)
    (case side2 => exact (Kd.R_reads' HO342.out).2.1)
    rintro e w25 ⟨v344, rfl, ho0, hb⟩
    refine ⟨_, rfl, ?_⟩
    have HO345 := ak (Kd.R_lower (Kd.R_newB (Kd.R_new' (Kd.R_new' (Kd.R_new' (Kd.R_newM (M := fun k_ => ((P0_2_ k_ ∨ P0_3_ k_) ∨ w.heap.size ≤ k_)) ho0 (kp3 HK.out GW335.out GW336.out GW339.out).1 (fun k_ h_ => .inr h_)) (Kd.R_lt (kr HO0_2.out))) (Kd.R_lt (kr HO0_3.out))) (Kd.R_lt (kr HO342.out))) (bk BK339.out)) (below_size (bl3 HB.out GE335.out GE336.out GE339.out)))
    replace HO0_2 := ak (Kd.R_elder' (kr HO0_2.out) (Kd.R_base ho0) hb)
    replace HO0_3 := ak (Kd.R_elder' (kr HO0_3.out) (Kd.R_base ho0) hb)
    replace HO342 := ak (Kd.R_elder' (kr HO342.out) (Kd.R_base ho0) hb)
    replace BK335 := ak (blk_below (bk BK335.out) hb)
    replace BK336 := ak (blk_below (bk BK336.out) hb)
    replace BK339 := ak (blk_below (bk BK339.out) hb)
    replace HK := ak (Kept.below (S := (fun k_ => P0_2_ k_ ∨ P0_3_ k_)) (kp3 HK.out GW335.out GW336.out GW339.out) hb)
    replace HB := ak (below_step (bl3 HB.out GE335.out GE336.out GE339.out) hb)
    clear hb
    (try clear hb2)
    (try clear hk)
    (try clear hi)
    clear ho0
    obtain ⟨Ao26, co26, eo26⟩ := Kd.R_slice HO345.out
    (first | subst eo26 | (injection eo26 with f1_ f2_ f3_; have f4_ := f1_.symm; have f5_ := f3_.symm; clear f1_ f2_ f3_; subst f4_; subst f5_))
    refine hK.out _ _ ⟨(blk_cell BK335.out 0).trans rfl, (blk_cell BK335.out 1).trans rfl, (blk_cell BK335.out 2).trans rfl, (blk_cell BK335.out 3).trans rfl, (blk_cell BK339.out 0).trans rfl, (blk_cell BK339.out 1).trans rfl⟩ (fun hHeld => ?_)
    clear hK K
    refine norm_ (a' := ?_) ?_ ?_
    rotate_left
    ·show Act.put _ (some 27) _ = _
     simp only [Act.put, List.setIfInBounds_toArray, List.set_cons_zero, List.set_cons_succ, i64_w, i32_w]
     rfl
    refine pu 6 (some 28) HT_ ?_
    refine last_ (i := 7) (N := none) #[true, true, true, true, true, true, true, true] rfl rfl (one_of HT_.out (by kernel_rfl)) (by decide) (fun K hK => ?_)
    have hs27 := bc3 BK335.out
    have hfs27 := blk_frozen BK335.out 3
    have hns27_1 := NB336_335.out
    have hns27_2 := NB339_335.out
    have hms27_1 := NB335_336.out
    have hms27_2 := NB335_339.out
    refine skip_ (w1 := ?_) (by rfl) rfl ?_ ?_
    rotate_left
    ·go_simp
     rfl
    refine hK.out _ _ ?_
    clear hK K
    refine done_ (done_of HT_.out (by kernel_rfl)) ?_
    try go_wp2
    have n0_ : Aside0 (Kd.R k45 45 (w25.setCell ⟨gb335, 3, none⟩ (.slice Ao26 t343.length co26)) w0.heap.size (fun k_ => ((P0_2_ k_ ∨ P0_3_ k_) ∨ w.heap.size ≤ k_) ∧ some k_ ≠ (.slice (some ad338) l0_3.length co10 : Value).ownBlock ∧ some k_ ≠ (.slice Ao24 t340.length co24 : Value).ownBlock ∧ some k_ ≠ (.slice Ao26 t343.length co26 : Value).ownBlock ∧ k_ ≠ gb339) (.slice Ao9 l0_2.length co9) l0_2) := ⟨by (with_reducible repeat (first | apply Kd.R_alloc | apply Kd.R_drewN | apply Kd.R_drew)); exact Kd.R_mono (Kd.R_far (p := ⟨gb335, 3, none⟩) (Kd.R_types HO0_2.out BK335.out (by decide)) (fun _ hk => hk.2) (.slice Ao26 t343.length co26)) (fun _ hk => ⟨hk.1.1.1.1, ⟨hk.1.1.1.2.1, ⟨hk.1.1.2, ⟨hk.1.2, hk.1.1.1.2.2⟩⟩⟩⟩)⟩
    have n1_ : Aside0 (Kd.R k45 45 (w25.setCell ⟨gb335, 3, none⟩ (.slice Ao26 t343.length co26)) w0.heap.size (fun k_ => ((P0_2_ k_ ∨ P0_3_ k_) ∨ w.heap.size ≤ k_) ∧ some k_ ≠ (.slice Ao9 l0_2.length co9 : Value).ownBlock ∧ some k_ ≠ (.slice Ao24 t340.length co24 : Value).ownBlock ∧ some k_ ≠ (.slice Ao26 t343.length co26 : Value).ownBlock ∧ k_ ≠ gb339) (.slice (some ad338) l0_3.length co10) l0_3) := ⟨by (with_reducible repeat (first | apply Kd.R_alloc | apply Kd.R_drewN | apply Kd.R_drew)); exact Kd.R_mono (Kd.R_far (p := ⟨gb335, 3, none⟩) (Kd.R_types HO0_3.out BK335.out (by decide)) (fun _ hk => hk.2) (.slice Ao26 t343.length co26)) (fun _ hk => ⟨hk.1.1.1.1, ⟨hk.1.1.1.2.1, ⟨hk.1.1.2, ⟨hk.1.2, hk.1.1.1.2.2⟩⟩⟩⟩)⟩
    have n2_ : Aside0 (Kd.R k45 45 (w25.setCell ⟨gb335, 3, none⟩ (.slice Ao26 t343.length co26)) w0.heap.size (fun k_ => ((P0_2_ k_ ∨ P0_3_ k_) ∨ w.heap.size ≤ k_) ∧ some k_ ≠ (.slice Ao9 l0_2.length co9 : Value).ownBlock ∧ some k_ ≠ (.slice (some ad338) l0_3.length co10 : Value).ownBlock ∧ some k_ ≠ (.slice Ao26 t343.length co26 : Value).ownBlock ∧ k_ ≠ gb339) (.slice Ao24 t340.length co24) t340) := ⟨by (with_reducible repeat (first | apply Kd.R_alloc | apply Kd.R_drewN | apply Kd.R_drew)); exact Kd.R_mono (Kd.R_far (p := ⟨gb335, 3, none⟩) (Kd.R_types HO342.out BK335.out (by decide)) (fun _ hk => hk.2) (.slice Ao26 t343.length co26)) (fun _ hk => ⟨hk.1.1.1.1.1.1, ⟨hk.1.1.1.1.2, ⟨hk.1.1.1.2, ⟨hk.1.2, hk.1.1.2⟩⟩⟩⟩)⟩
    have n3_ : Aside0 (Kd.R k45 45 (w25.setCell ⟨gb335, 3, none⟩ (.slice Ao26 t343.length co26)) w0.heap.size (fun k_ => ((P0_2_ k_ ∨ P0_3_ k_) ∨ w.heap.size ≤ k_) ∧ some k_ ≠ (.slice Ao9 l0_2.length co9 : Value).ownBlock ∧ some k_ ≠ (.slice (some ad338) l0_3.length co10 : Value).ownBlock ∧ some k_ ≠ (.slice Ao24 t340.length co24 : Value).ownBlock ∧ k_ ≠ gb339) (.slice Ao26 t343.length co26) t343) := ⟨by (with_reducible repeat (first | apply Kd.R_alloc | apply Kd.R_drewN | apply Kd.R_drew)); exact Kd.R_mono (Kd.R_far (p := ⟨gb335, 3, none⟩) (Kd.R_types HO345.out BK335.out (by decide)) (fun _ hk => hk.2) (.slice Ao26 t343.length co26)) (fun _ hk => ⟨hk.1.1.1.1.1.1, ⟨hk.1.1.1.1.2, ⟨hk.1.1.1.2, ⟨hk.1.1.2, hk.1.2⟩⟩⟩⟩)⟩
    have n4_ : Aside0 ((w25.setCell ⟨gb335, 3, none⟩ (.slice Ao26 t343.length co26)).heap[gb335]? = some (.cells #[.int .i64 a0_0, .int .i64 a0_1, .slice Ao9 l0_2.length co9, .slice Ao26 t343.length co26] 28 (0, 0))) := ⟨by (with_reducible repeat (first | refine blk_drewN ?_ _ | refine blk_drew ?_ | refine blk_alloc ?_ _)); refine blk_put (cs := #[.int .i64 a0_0, .int .i64 a0_1, .slice Ao9 l0_2.length co9, .slice (some ad338) l0_3.length co10]) ?_ 3 _ rfl; exact bk BK335.out⟩
    have n5_ : Aside0 ((w25.setCell ⟨gb335, 3, none⟩ (.slice Ao26 t343.length co26)).heap[gb336]? = some (.cells #[.int .i64 0, .int .i64 0, .slice none 0 0, .slice none 0 0] 28 (0, 0))) := ⟨by (with_reducible repeat (first | refine blk_drewN ?_ _ | refine blk_drew ?_ | refine blk_alloc ?_ _)); refine blk_far ?_ NB336_335.out _; exact bk BK336.out⟩
    have n6_ : Aside0 ((w25.setCell ⟨gb335, 3, none⟩ (.slice Ao26 t343.length co26)).heap[gb339]? = some (.cells #[.string ((rd_T45 l0_3 t337).f0), .string ((rd_T45 l0_3 t337).f1)] 45 (0, 0))) := ⟨by (with_reducible repeat (first | refine blk_drewN ?_ _ | refine blk_drew ?_ | refine blk_alloc ?_ _)); refine blk_far ?_ NB339_335.out _; exact bk BK339.out⟩
    have n7_ : Aside0 (Kept w (w25.setCell ⟨gb335, 3, none⟩ (.slice Ao26 t343.length co26)) (fun k_ => P0_2_ k_ ∨ P0_3_ k_)) := ⟨by repeat (first | (with_reducible first | exact HK.out | apply Kept.alloc | apply Kept.drewN | apply Kept.drew | refine Kept.setCell ?_ (.inr GW335.out) _ | refine Kept.setCell ?_ (.inr GW336.out) _ | refine Kept.setCell ?_ (.inr GW339.out) _) | exact HK.out)⟩
    have n8_ : Aside0 (Below w0.heap.size w0 (w25.setCell ⟨gb335, 3, none⟩ (.slice Ao26 t343.length co26))) := ⟨bl3 HB.out GE335.out GE336.out GE339.out⟩
    (try clear HO0_2)
    (try clear HO0_3)
    (try clear HO342)
    (try clear HO345)
    (try clear BK335)
    (try clear BK336)
    (try clear BK339)
    (try clear HK)
    (try clear HB)
    generalize (w25.setCell ⟨gb335, 3, none⟩ (.slice Ao26 t343.length co26)) = w28 at n0_ n1_ n2_ n3_ n4_ n5_ n6_ n7_ n8_ ⊢
    have HO0_2 := n0_
    have HO0_3 := n1_
    have HO342 := n2_
    have HO345 := n3_
    have BK335 := n4_
    have BK336 := n5_
    have BK339 := n6_
    have HK := n7_
    have HB := n8_
    clear n0_ n1_ n2_ n3_ n4_ n5_ n6_ n7_ n8_
    replace HO0_2 := ak (Kd.R_drew HO0_2.out)
    replace HO0_3 := ak (Kd.R_drew HO0_3.out)
    replace HO342 := ak (Kd.R_drew HO342.out)
    replace HO345 := ak (Kd.R_drew HO345.out)
    replace BK335 := ak (blk_drew BK335.out)
    replace BK336 := ak (blk_drew BK336.out)
    replace BK339 := ak (blk_drew BK339.out)
    replace HK := ak (Kept.drew HK.out)
    replace HB := ak (below_drew1 HB.out)
    refine start_ (n := 6) (S := fun w' => w'.cell? ⟨gb335, 0, none⟩ = some (.int .i64 a0_0) ∧ w'.cell? ⟨gb335, 1, none⟩ = some (.int .i64 a0_1) ∧ w'.cell? ⟨gb335, 2, none⟩ = some (.slice Ao9 l0_2.length co9) ∧ w'.cell? ⟨gb335, 3, none⟩ = some (.slice Ao26 t343.length co26) ∧ w'.cell? ⟨gb339, 0, none⟩ = some (.string ((rd_T45 l0_3 t337).f0)) ∧ w'.cell? ⟨gb339, 1, none⟩ = some (.string ((rd_T45 l0_3 t337).f1))) (ds := []) #[false, false, false, false, false, false] (by kernel_rfl) rfl rfl ⟨(blk_cell BK335.out 0).trans rfl, (blk_cell BK335.out 1).trans rfl, (blk_cell BK335.out 2).trans rfl, (blk_cell BK335.out 3).trans rfl, (blk_cell BK339.out 0).trans rfl, (blk_cell BK339.out 1).trans rfl⟩ (fun hHeld => ?_)
    generalize w28.drew = w29 at HO0_2 HO0_3 HO342 HO345 BK335 BK336 BK339 HK HB hHeld ⊢
    refine pure_ (i := 1) (N := some 30) (v := ?_) (a' := ?_) #[false, true, false, false, false, false] rfl rfl (by kernel_rfl) (fun _ _ _ h => h) (Or.inl ⟨by rfl, ?_⟩) ?_ ?_
    rotate_left
    ·intro w'
     go_simp
     with_reducible rfl
    rotate_left
    ·simp only [Act.put, List.setIfInBounds_toArray, List.set_cons_zero, List.set_cons_succ, i64_w, i32_w]
     rfl
    refine take_ (i := 0) (N := some 29) (v := ?_) (a' := ?_) #[true, true, false, false, false, false] rfl rfl (by kernel_rfl) (fun _ _ _ h => h) (Or.inl ⟨by rfl, ?_⟩) hHeld ?_ ?_
    rotate_left
    ·rintro w' ⟨s0, s1, s2, s3, s4, s5⟩
     go_simp
     with_reducible rfl
    rotate_left
    ·simp only [Act.put, List.setIfInBounds_toArray, List.set_cons_zero, List.set_cons_succ, i64_w, i32_w]
     rfl
    refine take_ (i := 2) (N := some 31) (v := ?_) (a' := ?_) #[true, true, true, false, false, false] rfl rfl (by kernel_rfl) (fun _ _ _ h => h) (Or.inl ⟨by rfl, ?_⟩) hHeld ?_ ?_
    rotate_left
    ·rintro w' ⟨s0, s1, s2, s3, s4, s5⟩
     go_simp
     with_reducible rfl
    rotate_left
    ·simp only [Act.put, List.setIfInBounds_toArray, List.set_cons_zero, List.set_cons_succ, i64_w, i32_w]
     rfl
    refine one_ (i := 3) (N := none) #[true, true, true, true, false, false] rfl rfl (by kernel_rfl) (by decide) (fun K hK => ?_)
    have hs30 := bc0 BK336.out
    have hfs30 := blk_frozen BK336.out 0
    have hns30_0 := NB335_336.out
    have hns30_2 := NB339_336.out
    have hms30_0 := NB336_335.out
    have hms30_2 := NB336_339.out
    have hs31 := bc1 BK336.out
    have hfs31 := blk_frozen BK336.out 1
    have hns31_0 := NB335_336.out
    have hns31_2 := NB339_336.out
    have hms31_0 := NB336_335.out
    have hms31_2 := NB336_339.out
    have hs32 := bc2 BK336.out
    have hfs32 := blk_frozen BK336.out 2
    have hns32_0 := NB335_336.out
    have hns32_2 := NB339_336.out
    have hms32_0 := NB336_335.out
    have hms32_2 := NB336_339.out
    have hs33 := bc3 BK336.out
    have hfs33 := blk_frozen BK336.out 3
    have hns33_0 := NB335_336.out
    have hns33_2 := NB339_336.out
    have hms33_0 := NB336_335.out
    have hms33_2 := NB336_339.out
    refine skip_ (w1 := ?_) (by rfl) rfl ?_ ?_
    rotate_left
    ·go_simp
     rfl
    refine hK.out _ _ ⟨((cell_far (p := ⟨gb336, _, none⟩) NB335_336.out _).trans (((cell_far (p := ⟨gb336, _, none⟩) NB335_336.out _).trans (((cell_far (p := ⟨gb336, _, none⟩) NB335_336.out _).trans (((cell_far (p := ⟨gb336, _, none⟩) NB335_336.out _).trans (hHeld.1)))))))), ((cell_far (p := ⟨gb336, _, none⟩) NB335_336.out _).trans (((cell_far (p := ⟨gb336, _, none⟩) NB335_336.out _).trans (((cell_far (p := ⟨gb336, _, none⟩) NB335_336.out _).trans (((cell_far (p := ⟨gb336, _, none⟩) NB335_336.out _).trans (hHeld.2.1)))))))), ((cell_far (p := ⟨gb336, _, none⟩) NB335_336.out _).trans (((cell_far (p := ⟨gb336, _, none⟩) NB335_336.out _).trans (((cell_far (p := ⟨gb336, _, none⟩) NB335_336.out _).trans (((cell_far (p := ⟨gb336, _, none⟩) NB335_336.out _).trans (hHeld.2.2.1)))))))), ((cell_far (p := ⟨gb336, _, none⟩) NB335_336.out _).trans (((cell_far (p := ⟨gb336, _, none⟩) NB335_336.out _).trans (((cell_far (p := ⟨gb336, _, none⟩) NB335_336.out _).trans (((cell_far (p := ⟨gb336, _, none⟩) NB335_336.out _).trans (hHeld.2.2.2.1)))))))), ((cell_far (p := ⟨gb336, _, none⟩) NB339_336.out _).trans (((cell_far (p := ⟨gb336, _, none⟩) NB339_336.out _).trans (((cell_far (p := ⟨gb336, _, none⟩) NB339_336.out _).trans (((cell_far (p := ⟨gb336, _, none⟩) NB339_336.out _).trans (hHeld.2.2.2.2.1)))))))), ((cell_far (p := ⟨gb336, _, none⟩) NB339_336.out _).trans (((cell_far (p := ⟨gb336, _, none⟩) NB339_336.out _).trans (((cell_far (p := ⟨gb336, _, none⟩) NB339_336.out _).trans (((cell_far (p := ⟨gb336, _, none⟩) NB339_336.out _).trans (hHeld.2.2.2.2.2))))))))⟩ (fun hHeld => ?_)
    clear hK K
    refine pure_ (i := 4) (N := some 5) (v := ?_) (a' := ?_) #[true, true, true, true, true, false] rfl rfl (by kernel_rfl) (fun _ _ _ h => h) (Or.inl ⟨by rfl, ?_⟩) ?_ ?_
    rotate_left
    ·intro w'
     go_simp
     with_reducible rfl
    rotate_left
    ·simp only [Act.put, List.setIfInBounds_toArray, List.set_cons_zero, List.set_cons_succ, i64_w, i32_w]
     rfl
    refine pure_ (i := 5) (N := some 6) (v := ?_) (a' := ?_) #[true, true, true, true, true, true] rfl rfl (by kernel_rfl) (fun _ _ _ h => h) (Or.inl ⟨by rfl, ?_⟩) ?_ ?_
    rotate_left
    ·intro w'
     go_simp
     with_reducible rfl
    rotate_left
    ·simp only [Act.put, List.setIfInBounds_toArray, List.set_cons_zero, List.set_cons_succ, i64_w, i32_w]
     rfl
    refine done_ (by kernel_rfl) ?_
    try go_wp2
    refine bodyPost_ret (results_ctt rfl _ _ gb336 28 #[.int .i64 a0_0, .int .i64 a0_1, .slice Ao9 l0_2.length co9, .slice Ao26 t343.length co26] (0, 0) _ rfl (bq BK336.out) Try.underlying28 rfl (by kernel_rfl)) rfl ?_
    exact ⟨_, _, by first | rfl | (simp [errW_none, errW_some] <;> rfl) | (simp [*, errW_none, errW_some] <;> rfl), by (with_reducible repeat (first | apply Kd.R_alloc | apply Kd.R_drewN | apply Kd.R_drew)); exact Kd.R_mono (Kd.R_far (p := ⟨gb336, 3, none⟩) (Kd.R_far (p := ⟨gb336, 2, none⟩) (Kd.R_far (p := ⟨gb336, 1, none⟩) (Kd.R_far (p := ⟨gb336, 0, none⟩) (Kd.R_types HO0_2.out BK336.out (by decide)) (fun _ hk => hk.2) (.int .i64 a0_0)) (fun _ hk => hk.2) (.int .i64 a0_1)) (fun _ hk => hk.2) (.slice Ao9 l0_2.length co9)) (fun _ hk => hk.2) (.slice Ao26 t343.length co26)) (fun _ hk => ⟨hk.1.1, hk.1.2.2.2.1⟩), by (with_reducible repeat (first | apply Kd.R_alloc | apply Kd.R_drewN | apply Kd.R_drew)); exact Kd.R_mono (Kd.R_far (p := ⟨gb336, 3, none⟩) (Kd.R_far (p := ⟨gb336, 2, none⟩) (Kd.R_far (p := ⟨gb336, 1, none⟩) (Kd.R_far (p := ⟨gb336, 0, none⟩) (Kd.R_types HO345.out BK336.out (by decide)) (fun _ hk => hk.2) (.int .i64 a0_0)) (fun _ hk => hk.2) (.int .i64 a0_1)) (fun _ hk => hk.2) (.slice Ao9 l0_2.length co9)) (fun _ hk => hk.2) (.slice Ao26 t343.length co26)) (fun _ hk => ⟨hk.1.1, hk.1.2.1⟩), bl3 HB.out GE335.out GE336.out GE339.out, by repeat (first | (with_reducible first | exact HK.out | apply Kept.alloc | apply Kept.drewN | apply Kept.drew | refine Kept.setCell ?_ (.inr GW335.out) _ | refine Kept.setCell ?_ (.inr GW336.out) _ | refine Kept.setCell ?_ (.inr GW339.out) _) | exact HK.out)⟩
   ·rw [if_neg c6] at H
    exact absurd H (by simp)
  ·rw [if_neg c5] at H
   exact absurd H (by simp)
 ·rw [if_neg c4] at H
  have c4b0 : decide (0 ≤ t337) = false := decide_eq_false c4
  clear c4
  replace H := Option.bind_eq_some_iff.mp H
  obtain ⟨t346, A340, H⟩ := H
  try dsimp only at H
  have A34 := ak A340
  clear A340
  by_cases c35 : t346 < 0
  ·rw [if_pos c35] at H
   have c35b0 : decide (t346 < 0) = true := decide_eq_true c35
   clear c35
   simp only [Option.some.injEq, Prod.mk.injEq] at H
   obtain ⟨rfl, rfl, rfl, rfl, rfl, rfl⟩ := H
   obtain ⟨Ao36, co36, eo36⟩ := Kd.R_slice HO0_2.out
   subst eo36
   obtain ⟨Ao37, co37, eo37⟩ := Kd.R_slice HO0_3.out
   subst eo37
   go_enter Try.func57, Try.ntmps57
   go_wp2_with (first | (refine bE 2 #[.int .i64 a0_0, .int .i64 a0_1, .slice Ao36 l0_2.length co36, .slice Ao37 l0_3.length co37] 28 ?_; intro gb335 hg w38 hbox hb; replace HO0_2 := ak (Kd.R_below (kr HO0_2.out) hb); replace HO0_3 := ak (Kd.R_below (kr HO0_3.out) hb); have BK335 := ak hbox; have GW335 := gk hg (kp HK.out); replace HK := ak (Kept.below (S := (fun k_ => P0_2_ k_ ∨ P0_3_ k_)) (kp HK.out) hb); have GE335 := gs hg (bl HB.out); replace HB := ak (below_step (bl HB.out) hb); clear hb hbox hg) | (refine bE 4 #[.int .i64 0, .int .i64 0, .slice none 0 0, .slice none 0 0] 28 ?_; intro gb336 hg w39 hbox hb; replace HO0_2 := ak (Kd.R_below (kr HO0_2.out) hb); replace HO0_3 := ak (Kd.R_below (kr HO0_3.out) hb); have BK336 := ak hbox; have GW336 := gk hg (kp1 HK.out GW335.out); replace HK := ak (Kept.below (S := (fun k_ => P0_2_ k_ ∨ P0_3_ k_)) (kp1 HK.out GW335.out) hb); have GE336 := gs hg (bl1 HB.out GE335.out); replace HB := ak (below_step (bl1 HB.out GE335.out) hb); have NB335_336 := nl hg BK335.out; have NB336_335 := ng hg BK335.out; replace BK335 := ak (blk_below (bk BK335.out) hb); clear hb hbox hg; have hnb40 := NB335_336.out; have hnc40 := NB336_335.out; obtain ⟨hcz41_0, hcz41_1, hcz41_2, hcz41_3, hfz41_0, hfz41_1, hfz41_2, hfz41_3⟩ := b4 BK335.out) | (refine gL 43 Try.func43 (some 14) #[.slice Ao37 l0_3.length co37, .string a1] ?_; (with_reducible refine (spec_l12At.calls k _ _ l0_3 a1 t337 _ ?side1 ?side2 A3.out).mono ?_); (case side1 => exact kc (Kd.R_reads' HO0_3.out).2.2); (case side2 => exact (Kd.R_reads' HO0_3.out).2.1); rintro e w42 ⟨rfl, hb⟩; refine ⟨_, rfl, ?_⟩; replace HO0_2 := ak (Kd.R_below (kr HO0_2.out) hb); replace HO0_3 := ak (Kd.R_below (kr HO0_3.out) hb); replace BK335 := ak (blk_below (bk BK335.out) hb); replace BK336 := ak (blk_below (bk BK336.out) hb); replace HK := ak (Kept.below (S := (fun k_ => P0_2_ k_ ∨ P0_3_ k_)) (kp2 HK.out GW335.out GW336.out) hb); replace HB := ak (below_step (bl2 HB.out GE335.out GE336.out) hb); clear hb; obtain ⟨hcz43_0, hcz43_1, hcz43_2, hcz43_3, hfz43_0, hfz43_1, hfz43_2, hfz43_3⟩ := b4 BK335.out) | (refine gL 43 Try.func43 (some 35) #[.slice Ao36 l0_2.length co36, .string a1] ?_; (with_reducible refine (spec_l12At.calls k _ _ l0_2 a1 t346 _ ?side1 ?side2 A34.out).mono ?_); (case side1 => exact kc (Kd.R_reads' HO0_2.out).2.2); (case side2 => exact (Kd.R_reads' HO0_2.out).2.1); rintro e w44 ⟨rfl, hb⟩; refine ⟨_, rfl, ?_⟩; replace HO0_2 := ak (Kd.R_below (kr HO0_2.out) hb); replace HO0_3 := ak (Kd.R_below (kr HO0_3.out) hb); replace BK335 := ak (blk_below (bk BK335.out) hb); replace BK336 := ak (blk_below (bk BK336.out) hb); replace HK := ak (Kept.below (S := (fun k_ => P0_2_ k_ ∨ P0_3_ k_)) (kp2 HK.out GW335.out GW336.out) hb); replace HB := ak (below_step (bl2 HB.out GE335.out GE336.out) hb); clear hb; obtain ⟨hcz45_0, hcz45_1, hcz45_2, hcz45_3, hfz45_0, hfz45_1, hfz45_2, hfz45_3⟩ := b4 BK335.out; obtain ⟨hcz46_0, hcz46_1, hcz46_2, hcz46_3, hfz46_0, hfz46_1, hfz46_2, hfz46_3⟩ := b4 BK336.out))
   refine bodyPost_ret (results_ctt rfl _ _ gb336 28 #[.int .i64 a0_0, .int .i64 a0_1, .slice Ao36 l0_2.length co36, .slice Ao37 l0_3.length co37] (0, 0) _ rfl (bq BK336.out) Try.underlying28 rfl (by kernel_rfl)) rfl ?_
   exact ⟨_, _, by first | rfl | (simp [errW_none, errW_some] <;> rfl) | (simp [*, errW_none, errW_some] <;> rfl), by (with_reducible repeat (first | apply Kd.R_alloc | apply Kd.R_drewN | apply Kd.R_drew)); exact Kd.R_mono (Kd.R_far (p := ⟨gb336, 3, none⟩) (Kd.R_far (p := ⟨gb336, 2, none⟩) (Kd.R_far (p := ⟨gb336, 1, none⟩) (Kd.R_far (p := ⟨gb336, 0, none⟩) (Kd.R_types HO0_2.out BK336.out (by decide)) (fun _ hk => hk.2) (.int .i64 a0_0)) (fun _ hk => hk.2) (.int .i64 a0_1)) (fun _ hk => hk.2) (.slice Ao36 l0_2.length co36)) (fun _ hk => hk.2) (.slice Ao37 l0_3.length co37)) (fun _ hk => ⟨hk.1.1, hk.1.2⟩), by (with_reducible repeat (first | apply Kd.R_alloc | apply Kd.R_drewN | apply Kd.R_drew)); exact Kd.R_mono (Kd.R_far (p := ⟨gb336, 3, none⟩) (Kd.R_far (p := ⟨gb336, 2, none⟩) (Kd.R_far (p := ⟨gb336, 1, none⟩) (Kd.R_far (p := ⟨gb336, 0, none⟩) (Kd.R_types HO0_3.out BK336.out (by decide)) (fun _ hk => hk.2) (.int .i64 a0_0)) (fun _ hk => hk.2) (.int .i64 a0_1)) (fun _ hk => hk.2) (.slice Ao36 l0_2.length co36)) (fun _ hk => hk.2) (.slice Ao37 l0_3.length co37)) (fun _ hk => ⟨hk.1.1, hk.1.2⟩), bl2 HB.out GE335.out GE336.out, by repeat (first | (with_reducible first | exact HK.out | apply Kept.alloc | apply Kept.drewN | apply Kept.drew | refine Kept.setCell ?_ (.inr GW335.out) _ | refine Kept.setCell ?_ (.inr GW336.out) _) | exact HK.out)⟩
  ·rw [if_neg c35] at H
   have c35b0 : decide (t346 < 0) = false := decide_eq_false c35
   clear c35
   by_cases c47 : 0 ≤ t346
   ·rw [if_pos c47] at H
    have c47b0 : decide (0 ≤ t346) = true := decide_eq_true c47
    clear c47
    by_cases c48 : t346 < (l0_2.length : Int)
    ·rw [if_pos c48] at H
     have c48b0 : decide (t346 < (l0_2.length : Int)) = true := decide_eq_true c48
     clear c48
     replace H := Option.bind_eq_some_iff.mp H
     obtain ⟨t349, A490, H⟩ := H
     try dsimp only at H
     have A49 := ak A490
     clear A490
     replace H := Option.bind_eq_some_iff.mp H
     obtain ⟨t352, A500, H⟩ := H
     try dsimp only at H
     have A50 := ak A500
     clear A500
     replace H := Option.bind_eq_some_iff.mp H
     obtain ⟨⟨t355, t356, t357, t360, t363⟩, A510, H⟩ := H
     try dsimp only at H
     have A51 := ak A510
     clear A510
     simp only [Option.some.injEq, Prod.mk.injEq] at H
     obtain ⟨rfl, rfl, rfl, rfl, rfl, rfl⟩ := H
     obtain ⟨Ao52, co52, eo52⟩ := Kd.R_slice HO0_2.out
     subst eo52
     obtain ⟨Ao53, co53, eo53⟩ := Kd.R_slice HO0_3.out
     subst eo53
     go_enter Try.func57, Try.ntmps57
     try go_wp2_with (first | (refine bE 2 #[.int .i64 a0_0, .int .i64 a0_1, .slice Ao52 l0_2.length co52, .slice Ao53 l0_3.length co53] 28 ?_; intro gb335 hg w54 hbox hb; replace HO0_2 := ak (Kd.R_below (kr HO0_2.out) hb); replace HO0_3 := ak (Kd.R_below (kr HO0_3.out) hb); have BK335 := ak hbox; have GW335 := gk hg (kp HK.out); replace HK := ak (Kept.below (S := (fun k_ => P0_2_ k_ ∨ P0_3_ k_)) (kp HK.out) hb); have GE335 := gs hg (bl HB.out); replace HB := ak (below_step (bl HB.out) hb); clear hb hbox hg) | (refine bE 4 #[.int .i64 0, .int .i64 0, .slice none 0 0, .slice none 0 0] 28 ?_; intro gb336 hg w55 hbox hb; replace HO0_2 := ak (Kd.R_below (kr HO0_2.out) hb); replace HO0_3 := ak (Kd.R_below (kr HO0_3.out) hb); have BK336 := ak hbox; have GW336 := gk hg (kp1 HK.out GW335.out); replace HK := ak (Kept.below (S := (fun k_ => P0_2_ k_ ∨ P0_3_ k_)) (kp1 HK.out GW335.out) hb); have GE336 := gs hg (bl1 HB.out GE335.out); replace HB := ak (below_step (bl1 HB.out GE335.out) hb); have NB335_336 := nl hg BK335.out; have NB336_335 := ng hg BK335.out; replace BK335 := ak (blk_below (bk BK335.out) hb); clear hb hbox hg; have hnb56 := NB335_336.out; have hnc56 := NB336_335.out; obtain ⟨hcz57_0, hcz57_1, hcz57_2, hcz57_3, hfz57_0, hfz57_1, hfz57_2, hfz57_3⟩ := b4 BK335.out) | (refine gL 43 Try.func43 (some 14) #[.slice Ao53 l0_3.length co53, .string a1] ?_; (with_reducible refine (spec_l12At.calls k _ _ l0_3 a1 t337 _ ?side1 ?side2 A3.out).mono ?_); (case side1 => exact kc (Kd.R_reads' HO0_3.out).2.2); (case side2 => exact (Kd.R_reads' HO0_3.out).2.1); rintro e w58 ⟨rfl, hb⟩; refine ⟨_, rfl, ?_⟩; replace HO0_2 := ak (Kd.R_below (kr HO0_2.out) hb); replace HO0_3 := ak (Kd.R_below (kr HO0_3.out) hb); replace BK335 := ak (blk_below (bk BK335.out) hb); replace BK336 := ak (blk_below (bk BK336.out) hb); replace HK := ak (Kept.below (S := (fun k_ => P0_2_ k_ ∨ P0_3_ k_)) (kp2 HK.out GW335.out GW336.out) hb); replace HB := ak (below_step (bl2 HB.out GE335.out GE336.out) hb); clear hb; obtain ⟨hcz59_0, hcz59_1, hcz59_2, hcz59_3, hfz59_0, hfz59_1, hfz59_2, hfz59_3⟩ := b4 BK335.out) | (refine gL 43 Try.func43 (some 35) #[.slice Ao52 l0_2.length co52, .string a1] ?_; (with_reducible refine (spec_l12At.calls k _ _ l0_2 a1 t346 _ ?side1 ?side2 A34.out).mono ?_); (case side1 => exact kc (Kd.R_reads' HO0_2.out).2.2); (case side2 => exact (Kd.R_reads' HO0_2.out).2.1); rintro e w60 ⟨rfl, hb⟩; refine ⟨_, rfl, ?_⟩; replace HO0_2 := ak (Kd.R_below (kr HO0_2.out) hb); replace HO0_3 := ak (Kd.R_below (kr HO0_3.out) hb); replace BK335 := ak (blk_below (bk BK335.out) hb); replace BK336 := ak (blk_below (bk BK336.out) hb); replace HK := ak (Kept.below (S := (fun k_ => P0_2_ k_ ∨ P0_3_ k_)) (kp2 HK.out GW335.out GW336.out) hb); replace HB := ak (below_step (bl2 HB.out GE335.out GE336.out) hb); clear hb; obtain ⟨hcz61_0, hcz61_1, hcz61_2, hcz61_3, hfz61_0, hfz61_1, hfz61_2, hfz61_3⟩ := b4 BK335.out; have p347 : 0 ≤ (t346 : Int) := od; have q347 : t346 < (l0_2.length : Int) := od; obtain ⟨ad347, e347, hx347_0, hx347_1⟩ := at_T45 (Kd.R_reads' HO0_2.out).2.2 t346 p347 q347; cases e347; replace p347 := eq_true p347; replace q347 := eq_true q347) | (refine bE 10 #[.string (⟨#[]⟩ : ByteArray), .string (⟨#[]⟩ : ByteArray)] 45 ?_; intro gb348 hg w62 hbox hb; replace HO0_2 := ak (Kd.R_below (Kd.R_elderB (kr HO0_2.out) gb348 (Nat.le_of_eq hg.symm)) hb); replace HO0_3 := ak (Kd.R_below (Kd.R_elderB (kr HO0_3.out) gb348 (Nat.le_of_eq hg.symm)) hb); have BK348 := ak hbox; have GW348 := gk hg (kp2 HK.out GW335.out GW336.out); replace HK := ak (Kept.below (S := (fun k_ => P0_2_ k_ ∨ P0_3_ k_)) (kp2 HK.out GW335.out GW336.out) hb); have GE348 := gs hg (bl2 HB.out GE335.out GE336.out); replace HB := ak (below_step (bl2 HB.out GE335.out GE336.out) hb); have NB335_348 := nl hg BK335.out; have NB348_335 := ng hg BK335.out; replace BK335 := ak (blk_below (bk BK335.out) hb); have NB336_348 := nl hg BK336.out; have NB348_336 := ng hg BK336.out; replace BK336 := ak (blk_below (bk BK336.out) hb); clear hb hbox hg; have hnb63 := NB348_335.out; have hnc63 := NB335_348.out; have hnb64 := NB348_336.out; have hnc64 := NB336_348.out; obtain ⟨hcz65_0, hcz65_1, hfz65_0, hfz65_1⟩ := b2 BK348.out; obtain ⟨hcz66_0, hcz66_1, hcz66_2, hcz66_3, hfz66_0, hfz66_1, hfz66_2, hfz66_3⟩ := b4 BK335.out) | (refine gL 44 Try.func44 (some 47) #[.slice (some ad347) l0_2.length co52, .int .i64 t346] ?_; (with_reducible refine (spec_l12Without.calls _ _ l0_2 t346 t349 _ ?side1 ?side2 A49.out).mono ?_); (case side1 => refine (Kd.R_reads' (e := 45) (base := w0.heap.size) (ok := fun k_ => ((((P0_2_ k_ ∨ P0_3_ k_) ∨ w.heap.size ≤ k_) ∧ some k_ ≠ (.slice Ao53 l0_3.length co53 : Value).ownBlock) ∧ k_ ≠ gb348)) (n := l0_2.length) (c := co52) ?_).2.2; exact (by (with_reducible repeat (first | apply Kd.R_alloc | apply Kd.R_drewN | apply Kd.R_drew)); exact (Kd.R_mono (Kd.R_far (p := ⟨gb348, 1, none⟩) (Kd.R_far (p := ⟨gb348, 0, none⟩) (Kd.R_mono HO0_2.out (fun k_ hk => (⟨hk, hk.2⟩ : _ ∧ k_ ≠ gb348))) (fun _ hk => hk.2) (.string ((rd_T45 l0_2 t346).f0))) (fun _ hk => hk.2) (.string ((rd_T45 l0_2 t346).f1))) (fun _ h_ => h_.1)))); (case side2 => exact (Kd.R_reads' HO0_2.out).2.1); rintro e w67 ⟨v350, rfl, ho0, hb⟩; refine ⟨_, rfl, ?_⟩; have HO351 := ak (Kd.R_lower (Kd.R_newB (Kd.R_new' (Kd.R_new' (Kd.R_newM (M := fun k_ => ((P0_2_ k_ ∨ P0_3_ k_) ∨ w.heap.size ≤ k_)) ho0 (kp3 HK.out GW335.out GW336.out GW348.out).1 (fun k_ h_ => .inr h_)) (Kd.R_lt (by (with_reducible repeat (first | apply Kd.R_alloc | apply Kd.R_drewN | apply Kd.R_drew)); exact (Kd.R_mono (Kd.R_far (p := ⟨gb348, 1, none⟩) (Kd.R_far (p := ⟨gb348, 0, none⟩) (Kd.R_mono HO0_2.out (fun k_ hk => (⟨hk, hk.2⟩ : _ ∧ k_ ≠ gb348))) (fun _ hk => hk.2) (.string ((rd_T45 l0_2 t346).f0))) (fun _ hk => hk.2) (.string ((rd_T45 l0_2 t346).f1))) (fun _ h_ => h_.1))))) (Kd.R_lt (by (with_reducible repeat (first | apply Kd.R_alloc | apply Kd.R_drewN | apply Kd.R_drew)); exact (Kd.R_mono (Kd.R_far (p := ⟨gb348, 1, none⟩) (Kd.R_far (p := ⟨gb348, 0, none⟩) (Kd.R_mono HO0_3.out (fun k_ hk => (⟨hk, hk.2⟩ : _ ∧ k_ ≠ gb348))) (fun _ hk => hk.2) (.string ((rd_T45 l0_2 t346).f0))) (fun _ hk => hk.2) (.string ((rd_T45 l0_2 t346).f1))) (fun _ h_ => h_.1))))) (g := gb348) (o := .cells #[.string ((rd_T45 l0_2 t346).f0), .string ((rd_T45 l0_2 t346).f1)] 45 (0, 0)) (bq BK348.out)) (below_size (bl3 HB.out GE335.out GE336.out GE348.out))); replace HO0_2 := ak (Kd.R_elder' (by (with_reducible repeat (first | apply Kd.R_alloc | apply Kd.R_drewN | apply Kd.R_drew)); exact (Kd.R_mono (Kd.R_far (p := ⟨gb348, 1, none⟩) (Kd.R_far (p := ⟨gb348, 0, none⟩) (Kd.R_mono HO0_2.out (fun k_ hk => (⟨hk, hk.2⟩ : _ ∧ k_ ≠ gb348))) (fun _ hk => hk.2) (.string ((rd_T45 l0_2 t346).f0))) (fun _ hk => hk.2) (.string ((rd_T45 l0_2 t346).f1))) (fun _ h_ => h_.1))) (Kd.R_base ho0) hb); replace HO0_3 := ak (Kd.R_elder' (by (with_reducible repeat (first | apply Kd.R_alloc | apply Kd.R_drewN | apply Kd.R_drew)); exact (Kd.R_mono (Kd.R_far (p := ⟨gb348, 1, none⟩) (Kd.R_far (p := ⟨gb348, 0, none⟩) (Kd.R_mono HO0_3.out (fun k_ hk => (⟨hk, hk.2⟩ : _ ∧ k_ ≠ gb348))) (fun _ hk => hk.2) (.string ((rd_T45 l0_2 t346).f0))) (fun _ hk => hk.2) (.string ((rd_T45 l0_2 t346).f1))) (fun _ h_ => h_.1))) (Kd.R_base ho0) hb); replace BK335 := ak (blk_below (g := gb335) (o := .cells #[.int .i64 a0_0, .int .i64 a0_1, .slice (some ad347) l0_2.length co52, .slice Ao53 l0_3.length co53] 28 (0, 0)) (bq BK335.out) hb); replace BK336 := ak (blk_below (g := gb336) (o := .cells #[.int .i64 0, .int .i64 0, .slice none 0 0, .slice none 0 0] 28 (0, 0)) (bq BK336.out) hb); replace BK348 := ak (blk_below (g := gb348) (o := .cells #[.string ((rd_T45 l0_2 t346).f0), .string ((rd_T45 l0_2 t346).f1)] 45 (0, 0)) (bq BK348.out) hb); replace HK := ak (Kept.below (S := (fun k_ => P0_2_ k_ ∨ P0_3_ k_)) (kp3 HK.out GW335.out GW336.out GW348.out) hb); replace HB := ak (below_step (bl3 HB.out GE335.out GE336.out GE348.out) hb); clear hb ho0; obtain ⟨Ao68, co68, eo68⟩ := Kd.R_slice HO351.out; subst eo68; obtain ⟨hcz69_0, hcz69_1, hcz69_2, hcz69_3, hfz69_0, hfz69_1, hfz69_2, hfz69_3⟩ := b4 BK335.out; obtain ⟨hcz70_0, hcz70_1, hfz70_0, hfz70_1⟩ := b2 BK348.out) | (refine gL 80 Try.func80 (some 52) #[.slice Ao53 l0_3.length co53, .agg #[.string ((rd_T45 l0_2 t346).f0), .string ((rd_T45 l0_2 t346).f1)]] ?_; (with_reducible refine (spec_l12Ahead.calls _ _ l0_3 ((rd_T45 l0_2 t346).f0) ((rd_T45 l0_2 t346).f1) t352 _ ?side1 ?side2 A50.out).mono ?_); (case side1 => refine (Kd.R_reads' (e := 45) (base := w0.heap.size) (ok := fun k_ => (((((P0_2_ k_ ∨ P0_3_ k_) ∨ w.heap.size ≤ k_) ∧ some k_ ≠ (.slice (some ad347) l0_2.length co52 : Value).ownBlock) ∧ k_ ≠ gb348) ∧ some k_ ≠ (.slice Ao68 t349.length co68 : Value).ownBlock)) (n := l0_3.length) (c := co53) ?_).2.2; exact (by (with_reducible repeat (first | apply Kd.R_alloc | apply Kd.R_drewN | apply Kd.R_drew)); exact (Kd.R_mono (Kd.R_far (p := ⟨gb335, 2, none⟩) (Kd.R_types HO0_3.out BK335.out (by decide)) (fun _ hk => hk.2) (.slice Ao68 t349.length co68)) (fun _ h_ => h_.1)))); (case side2 => exact (Kd.R_reads' HO0_3.out).2.1); rintro e w71 ⟨v353, rfl, ho0, hb⟩; refine ⟨_, rfl, ?_⟩; have HO354 := ak (Kd.R_lower (Kd.R_newB (Kd.R_new' (Kd.R_new' (Kd.R_new' (Kd.R_newM (M := fun k_ => ((P0_2_ k_ ∨ P0_3_ k_) ∨ w.heap.size ≤ k_)) ho0 (kp3 HK.out GW335.out GW336.out GW348.out).1 (fun k_ h_ => .inr h_)) (Kd.R_lt (by (with_reducible repeat (first | apply Kd.R_alloc | apply Kd.R_drewN | apply Kd.R_drew)); exact (Kd.R_mono (Kd.R_far (p := ⟨gb335, 2, none⟩) (Kd.R_types HO0_2.out BK335.out (by decide)) (fun _ hk => hk.2) (.slice Ao68 t349.length co68)) (fun _ h_ => h_.1))))) (Kd.R_lt (by (with_reducible repeat (first | apply Kd.R_alloc | apply Kd.R_drewN | apply Kd.R_drew)); exact (Kd.R_mono (Kd.R_far (p := ⟨gb335, 2, none⟩) (Kd.R_types HO0_3.out BK335.out (by decide)) (fun _ hk => hk.2) (.slice Ao68 t349.length co68)) (fun _ h_ => h_.1))))) (Kd.R_lt (by (with_reducible repeat (first | apply Kd.R_alloc | apply Kd.R_drewN | apply Kd.R_drew)); exact (Kd.R_mono (Kd.R_far (p := ⟨gb335, 2, none⟩) (Kd.R_types HO351.out BK335.out (by decide)) (fun _ hk => hk.2) (.slice Ao68 t349.length co68)) (fun _ h_ => h_.1))))) (g := gb348) (o := .cells #[.string ((rd_T45 l0_2 t346).f0), .string ((rd_T45 l0_2 t346).f1)] 45 (0, 0)) (bq BK348.out)) (below_size (bl3 HB.out GE335.out GE336.out GE348.out))); replace HO0_2 := ak (Kd.R_elder' (by (with_reducible repeat (first | apply Kd.R_alloc | apply Kd.R_drewN | apply Kd.R_drew)); exact (Kd.R_mono (Kd.R_far (p := ⟨gb335, 2, none⟩) (Kd.R_types HO0_2.out BK335.out (by decide)) (fun _ hk => hk.2) (.slice Ao68 t349.length co68)) (fun _ h_ => h_.1))) (Kd.R_base ho0) hb); replace HO0_3 := ak (Kd.R_elder' (by (with_reducible repeat (first | apply Kd.R_alloc | apply Kd.R_drewN | apply Kd.R_drew)); exact (Kd.R_mono (Kd.R_far (p := ⟨gb335, 2, none⟩) (Kd.R_types HO0_3.out BK335.out (by decide)) (fun _ hk => hk.2) (.slice Ao68 t349.length co68)) (fun _ h_ => h_.1))) (Kd.R_base ho0) hb); replace HO351 := ak (Kd.R_elder' (by (with_reducible repeat (first | apply Kd.R_alloc | apply Kd.R_drewN | apply Kd.R_drew)); exact (Kd.R_mono (Kd.R_far (p := ⟨gb335, 2, none⟩) (Kd.R_types HO351.out BK335.out (by decide)) (fun _ hk => hk.2) (.slice Ao68 t349.length co68)) (fun _ h_ => h_.1))) (Kd.R_base ho0) hb); replace BK335 := ak (blk_below (g := gb335) (o := .cells #[.int .i64 a0_0, .int .i64 a0_1, .slice Ao68 t349.length co68, .slice Ao53 l0_3.length co53] 28 (0, 0)) (bq BK335.out) hb); replace BK336 := ak (blk_below (g := gb336) (o := .cells #[.int .i64 0, .int .i64 0, .slice none 0 0, .slice none 0 0] 28 (0, 0)) (bq BK336.out) hb); replace BK348 := ak (blk_below (g := gb348) (o := .cells #[.string ((rd_T45 l0_2 t346).f0), .string ((rd_T45 l0_2 t346).f1)] 45 (0, 0)) (bq BK348.out) hb); replace HK := ak (Kept.below (S := (fun k_ => P0_2_ k_ ∨ P0_3_ k_)) (kp3 HK.out GW335.out GW336.out GW348.out) hb); replace HB := ak (below_step (bl3 HB.out GE335.out GE336.out GE348.out) hb); clear hb ho0; obtain ⟨Ao72, co72, eo72⟩ := Kd.R_slice HO354.out; subst eo72; obtain ⟨hcz73_0, hcz73_1, hcz73_2, hcz73_3, hfz73_0, hfz73_1, hfz73_2, hfz73_3⟩ := b4 BK335.out) | ((with_reducible refine gate_store (t := 26) (p := 53) rfl ?_); refine store_event (t := 26) (p := 53) (v := ?vo_w74) (w1 := (w71.setCell ⟨gb335, 3, none⟩ (.slice Ao72 t352.length co72))) ?hg ?ho ?hn ?hr ?_; (case ho => rfl); (case hg => rfl); (case hn => rfl); (case hr => first | (go_simp; done) | (go_simp; rfl)); intro w74 hw; replace HO0_2 : Aside0 (Kd.R k45 45 w74 w0.heap.size (fun k_ => ((P0_2_ k_ ∨ P0_3_ k_) ∨ w.heap.size ≤ k_) ∧ some k_ ≠ (.slice Ao53 l0_3.length co53 : Value).ownBlock ∧ some k_ ≠ (.slice Ao68 t349.length co68 : Value).ownBlock ∧ some k_ ≠ (.slice Ao72 t352.length co72 : Value).ownBlock ∧ k_ ≠ gb348) (.slice (some ad347) l0_2.length co52) l0_2) := ⟨(by rw [hw]; exact (by (with_reducible repeat (first | apply Kd.R_alloc | apply Kd.R_drewN | apply Kd.R_drew)); exact Kd.R_mono (Kd.R_far (p := ⟨gb335, 3, none⟩) (Kd.R_types HO0_2.out BK335.out (by decide)) (fun _ hk => hk.2) (.slice Ao72 t352.length co72)) (fun _ hk => ⟨hk.1.1.1.1.1, ⟨hk.1.1.1.1.2, ⟨hk.1.1.2, ⟨hk.1.2, hk.1.1.1.2⟩⟩⟩⟩)))⟩; replace HO0_3 : Aside0 (Kd.R k45 45 w74 w0.heap.size (fun k_ => ((P0_2_ k_ ∨ P0_3_ k_) ∨ w.heap.size ≤ k_) ∧ some k_ ≠ (.slice (some ad347) l0_2.length co52 : Value).ownBlock ∧ some k_ ≠ (.slice Ao68 t349.length co68 : Value).ownBlock ∧ some k_ ≠ (.slice Ao72 t352.length co72 : Value).ownBlock ∧ k_ ≠ gb348) (.slice Ao53 l0_3.length co53) l0_3) := ⟨(by rw [hw]; exact (by (with_reducible repeat (first | apply Kd.R_alloc | apply Kd.R_drewN | apply Kd.R_drew)); exact Kd.R_mono (Kd.R_far (p := ⟨gb335, 3, none⟩) (Kd.R_types HO0_3.out BK335.out (by decide)) (fun _ hk => hk.2) (.slice Ao72 t352.length co72)) (fun _ hk => ⟨hk.1.1.1.1.1, ⟨hk.1.1.1.1.2, ⟨hk.1.1.2, ⟨hk.1.2, hk.1.1.1.2⟩⟩⟩⟩)))⟩; replace HO351 : Aside0 (Kd.R k45 45 w74 w0.heap.size (fun k_ => ((P0_2_ k_ ∨ P0_3_ k_) ∨ w.heap.size ≤ k_) ∧ some k_ ≠ (.slice (some ad347) l0_2.length co52 : Value).ownBlock ∧ some k_ ≠ (.slice Ao53 l0_3.length co53 : Value).ownBlock ∧ some k_ ≠ (.slice Ao72 t352.length co72 : Value).ownBlock ∧ k_ ≠ gb348) (.slice Ao68 t349.length co68) t349) := ⟨(by rw [hw]; exact (by (with_reducible repeat (first | apply Kd.R_alloc | apply Kd.R_drewN | apply Kd.R_drew)); exact Kd.R_mono (Kd.R_far (p := ⟨gb335, 3, none⟩) (Kd.R_types HO351.out BK335.out (by decide)) (fun _ hk => hk.2) (.slice Ao72 t352.length co72)) (fun _ hk => ⟨hk.1.1.1.1.1.1, ⟨hk.1.1.1.1.2, ⟨hk.1.1.1.2, ⟨hk.1.2, hk.1.1.2⟩⟩⟩⟩)))⟩; replace HO354 : Aside0 (Kd.R k45 45 w74 w0.heap.size (fun k_ => ((P0_2_ k_ ∨ P0_3_ k_) ∨ w.heap.size ≤ k_) ∧ some k_ ≠ (.slice (some ad347) l0_2.length co52 : Value).ownBlock ∧ some k_ ≠ (.slice Ao53 l0_3.length co53 : Value).ownBlock ∧ some k_ ≠ (.slice Ao68 t349.length co68 : Value).ownBlock ∧ k_ ≠ gb348) (.slice Ao72 t352.length co72) t352) := ⟨(by rw [hw]; exact (by (with_reducible repeat (first | apply Kd.R_alloc | apply Kd.R_drewN | apply Kd.R_drew)); exact Kd.R_mono (Kd.R_far (p := ⟨gb335, 3, none⟩) (Kd.R_types HO354.out BK335.out (by decide)) (fun _ hk => hk.2) (.slice Ao72 t352.length co72)) (fun _ hk => ⟨hk.1.1.1.1.1.1, ⟨hk.1.1.1.1.2, ⟨hk.1.1.1.2, ⟨hk.1.1.2, hk.1.2⟩⟩⟩⟩)))⟩; replace BK335 : Aside0 (w74.heap[gb335]? = some (.cells #[.int .i64 a0_0, .int .i64 a0_1, .slice Ao68 t349.length co68, .slice Ao72 t352.length co72] 28 (0, 0))) := ⟨(by rw [hw]; exact (bq BK335.out))⟩; replace BK336 : Aside0 (w74.heap[gb336]? = some (.cells #[.int .i64 0, .int .i64 0, .slice none 0 0, .slice none 0 0] 28 (0, 0))) := ⟨(by rw [hw]; exact (bq BK336.out))⟩; replace BK348 : Aside0 (w74.heap[gb348]? = some (.cells #[.string ((rd_T45 l0_2 t346).f0), .string ((rd_T45 l0_2 t346).f1)] 45 (0, 0))) := ⟨(by rw [hw]; exact (bq BK348.out))⟩; replace HK : Aside0 (Kept w w74 (fun k_ => P0_2_ k_ ∨ P0_3_ k_)) := ⟨(by rw [hw]; exact (kp3 HK.out GW335.out GW336.out GW348.out))⟩; replace HB : Aside0 (Below w0.heap.size w0 w74) := ⟨(by rw [hw]; exact (bl3 HB.out GE335.out GE336.out GE348.out))⟩; clear hw; obtain ⟨hcz75_0, hcz75_1, hcz75_2, hcz75_3, hfz75_0, hfz75_1, hfz75_2, hfz75_3⟩ := b4 BK335.out) | (refine gL 81 Try.func81 (some 56) #[.agg #[.int .i64 a0_0, .int .i64 a0_1, .slice Ao68 t349.length co68, .slice Ao72 t352.length co72]] ?_; (with_reducible refine (spec_l12Fit.calls k a0_0 a0_1 (fun k_ => some k_ = (.slice Ao68 t349.length co68 : Value).ownBlock) _ _ t349 (fun k_ => some k_ = (.slice Ao72 t352.length co72 : Value).ownBlock) _ _ t352 t355 t356 t357 t360 t363 _ ?side1 ?side2 A51.out).mono ?_); (case side1 => exact Kd.R_V (Kd.R_tight rfl (Kd.R_types (Kd.R_types (HO351.out) BK335.out (by decide)) BK336.out (by decide)))); (case side2 => exact Kd.R_V (Kd.R_tight rfl (Kd.R_types (Kd.R_types (HO354.out) BK335.out (by decide)) BK336.out (by decide)))); rintro e w76 ⟨v358, v361, v364, rfl, ho0, ho1, ho2, hb⟩; refine ⟨_, rfl, ?_⟩; have HO359 := ak (Kd.R_lower (Kd.R_newB (Kd.R_new' (Kd.R_new' (Kd.R_new' (Kd.R_new' (Kd.R_newM (M := fun k_ => ((P0_2_ k_ ∨ P0_3_ k_) ∨ w.heap.size ≤ k_)) (Kd.R_mono (ok' := fun k_ => some k_ ≠ (v361 : Value).ownBlock ∧ some k_ ≠ (v364 : Value).ownBlock) ho0 (fun _ hk_ => hk_.2)) (kp3 HK.out GW335.out GW336.out GW348.out).1 (fun k_ h_ => .inr h_)) (Kd.R_lt (kr HO0_2.out))) (Kd.R_lt (kr HO0_3.out))) (Kd.R_lt (kr HO351.out))) (Kd.R_lt (kr HO354.out))) (bk BK348.out)) (below_size (bl3 HB.out GE335.out GE336.out GE348.out))); have HO362 := ak (Kd.R_lower (Kd.R_newB (Kd.R_new' (Kd.R_new' (Kd.R_new' (Kd.R_new' (Kd.R_newM (M := fun k_ => ((P0_2_ k_ ∨ P0_3_ k_) ∨ w.heap.size ≤ k_)) (Kd.R_mono (ok' := fun k_ => some k_ ≠ (v358 : Value).ownBlock ∧ some k_ ≠ (v364 : Value).ownBlock) ho1 (fun _ hk_ => hk_.2)) (kp3 HK.out GW335.out GW336.out GW348.out).1 (fun k_ h_ => .inr h_)) (Kd.R_lt (kr HO0_2.out))) (Kd.R_lt (kr HO0_3.out))) (Kd.R_lt (kr HO351.out))) (Kd.R_lt (kr HO354.out))) (bk BK348.out)) (below_size (bl3 HB.out GE335.out GE336.out GE348.out))); have HO365 := ak (Kd.R_lower (Kd.R_newB (Kd.R_new' (Kd.R_new' (Kd.R_new' (Kd.R_new' (Kd.R_newM (M := fun k_ => ((P0_2_ k_ ∨ P0_3_ k_) ∨ w.heap.size ≤ k_)) (Kd.R_mono (ok' := fun k_ => some k_ ≠ (v358 : Value).ownBlock ∧ some k_ ≠ (v361 : Value).ownBlock) ho2 (fun _ hk_ => hk_.2)) (kp3 HK.out GW335.out GW336.out GW348.out).1 (fun k_ h_ => .inr h_)) (Kd.R_lt (kr HO0_2.out))) (Kd.R_lt (kr HO0_3.out))) (Kd.R_lt (kr HO351.out))) (Kd.R_lt (kr HO354.out))) (bk BK348.out)) (below_size (bl3 HB.out GE335.out GE336.out GE348.out))); replace HO0_2 := ak (Kd.R_mono (Kd.R_told (Kd.R_told (Kd.R_told (Kd.R_old (kr HO0_2.out) hb) (Kd.R_base ho0)) (Kd.R_base ho1)) (Kd.R_base ho2)) (fun _ h_ => h_.1)); replace HO0_3 := ak (Kd.R_mono (Kd.R_told (Kd.R_told (Kd.R_told (Kd.R_old (kr HO0_3.out) hb) (Kd.R_base ho0)) (Kd.R_base ho1)) (Kd.R_base ho2)) (fun _ h_ => h_.1)); replace HO351 := ak (Kd.R_mono (Kd.R_told (Kd.R_told (Kd.R_told (Kd.R_old (kr HO351.out) hb) (Kd.R_base ho0)) (Kd.R_base ho1)) (Kd.R_base ho2)) (fun _ h_ => h_.1)); replace HO354 := ak (Kd.R_mono (Kd.R_told (Kd.R_told (Kd.R_told (Kd.R_old (kr HO354.out) hb) (Kd.R_base ho0)) (Kd.R_base ho1)) (Kd.R_base ho2)) (fun _ h_ => h_.1)); replace BK335 := ak (blk_below (bk BK335.out) hb); replace BK336 := ak (blk_below (bk BK336.out) hb); replace BK348 := ak (blk_below (bk BK348.out) hb); replace HK := ak (Kept.below (S := (fun k_ => P0_2_ k_ ∨ P0_3_ k_)) (kp3 HK.out GW335.out GW336.out GW348.out) hb); replace HB := ak (below_step (bl3 HB.out GE335.out GE336.out GE348.out) hb); clear hb ho0 ho1 ho2; obtain ⟨hcz77_0, hcz77_1, hcz77_2, hcz77_3, hfz77_0, hfz77_1, hfz77_2, hfz77_3⟩ := b4 BK335.out; obtain ⟨Ao78, co78, eo78⟩ := Kd.R_slice HO359.out; subst eo78; obtain ⟨Ao79, co79, eo79⟩ := Kd.R_slice HO362.out; subst eo79))
     have n0_ : Aside0 (Kd.R k45 45 ((((w76.setCell ⟨gb335, 0, none⟩ (.int .i64 t355)).setCell ⟨gb335, 1, none⟩ (.int .i64 t356)).setCell ⟨gb335, 2, none⟩ (.slice Ao78 t357.length co78)).setCell ⟨gb335, 3, none⟩ (.slice Ao79 t360.length co79)) w0.heap.size (fun k_ => ((P0_2_ k_ ∨ P0_3_ k_) ∨ w.heap.size ≤ k_) ∧ some k_ ≠ (.slice Ao53 l0_3.length co53 : Value).ownBlock ∧ some k_ ≠ (.slice Ao68 t349.length co68 : Value).ownBlock ∧ some k_ ≠ (.slice Ao72 t352.length co72 : Value).ownBlock ∧ some k_ ≠ (.slice Ao78 t357.length co78 : Value).ownBlock ∧ some k_ ≠ (.slice Ao79 t360.length co79 : Value).ownBlock ∧ some k_ ≠ (v364 : Value).ownBlock ∧ k_ ≠ gb348) (.slice (some ad347) l0_2.length co52) l0_2) := ⟨by (with_reducible repeat (first | apply Kd.R_alloc | apply Kd.R_drewN | apply Kd.R_drew)); exact Kd.R_mono (Kd.R_far (p := ⟨gb335, 3, none⟩) (Kd.R_far (p := ⟨gb335, 2, none⟩) (Kd.R_far (p := ⟨gb335, 1, none⟩) (Kd.R_far (p := ⟨gb335, 0, none⟩) (Kd.R_types HO0_2.out BK335.out (by decide)) (fun _ hk => hk.2) (.int .i64 t355)) (fun _ hk => hk.2) (.int .i64 t356)) (fun _ hk => hk.2) (.slice Ao78 t357.length co78)) (fun _ hk => hk.2) (.slice Ao79 t360.length co79)) (fun _ hk => ⟨hk.1.1.1.1.1, ⟨hk.1.1.1.1.2.1, ⟨hk.1.1.1.1.2.2.1, ⟨hk.1.1.1.1.2.2.2.1, ⟨hk.1.1.1.2, ⟨hk.1.1.2, ⟨hk.1.2, hk.1.1.1.1.2.2.2.2⟩⟩⟩⟩⟩⟩⟩)⟩
     have n1_ : Aside0 (Kd.R k45 45 ((((w76.setCell ⟨gb335, 0, none⟩ (.int .i64 t355)).setCell ⟨gb335, 1, none⟩ (.int .i64 t356)).setCell ⟨gb335, 2, none⟩ (.slice Ao78 t357.length co78)).setCell ⟨gb335, 3, none⟩ (.slice Ao79 t360.length co79)) w0.heap.size (fun k_ => ((P0_2_ k_ ∨ P0_3_ k_) ∨ w.heap.size ≤ k_) ∧ some k_ ≠ (.slice (some ad347) l0_2.length co52 : Value).ownBlock ∧ some k_ ≠ (.slice Ao68 t349.length co68 : Value).ownBlock ∧ some k_ ≠ (.slice Ao72 t352.length co72 : Value).ownBlock ∧ some k_ ≠ (.slice Ao78 t357.length co78 : Value).ownBlock ∧ some k_ ≠ (.slice Ao79 t360.length co79 : Value).ownBlock ∧ some k_ ≠ (v364 : Value).ownBlock ∧ k_ ≠ gb348) (.slice Ao53 l0_3.length co53) l0_3) := ⟨by (with_reducible repeat (first | apply Kd.R_alloc | apply Kd.R_drewN | apply Kd.R_drew)); exact Kd.R_mono (Kd.R_far (p := ⟨gb335, 3, none⟩) (Kd.R_far (p := ⟨gb335, 2, none⟩) (Kd.R_far (p := ⟨gb335, 1, none⟩) (Kd.R_far (p := ⟨gb335, 0, none⟩) (Kd.R_types HO0_3.out BK335.out (by decide)) (fun _ hk => hk.2) (.int .i64 t355)) (fun _ hk => hk.2) (.int .i64 t356)) (fun _ hk => hk.2) (.slice Ao78 t357.length co78)) (fun _ hk => hk.2) (.slice Ao79 t360.length co79)) (fun _ hk => ⟨hk.1.1.1.1.1, ⟨hk.1.1.1.1.2.1, ⟨hk.1.1.1.1.2.2.1, ⟨hk.1.1.1.1.2.2.2.1, ⟨hk.1.1.1.2, ⟨hk.1.1.2, ⟨hk.1.2, hk.1.1.1.1.2.2.2.2⟩⟩⟩⟩⟩⟩⟩)⟩
     have n2_ : Aside0 (Kd.R k45 45 ((((w76.setCell ⟨gb335, 0, none⟩ (.int .i64 t355)).setCell ⟨gb335, 1, none⟩ (.int .i64 t356)).setCell ⟨gb335, 2, none⟩ (.slice Ao78 t357.length co78)).setCell ⟨gb335, 3, none⟩ (.slice Ao79 t360.length co79)) w0.heap.size (fun k_ => ((P0_2_ k_ ∨ P0_3_ k_) ∨ w.heap.size ≤ k_) ∧ some k_ ≠ (.slice (some ad347) l0_2.length co52 : Value).ownBlock ∧ some k_ ≠ (.slice Ao53 l0_3.length co53 : Value).ownBlock ∧ some k_ ≠ (.slice Ao72 t352.length co72 : Value).ownBlock ∧ some k_ ≠ (.slice Ao78 t357.length co78 : Value).ownBlock ∧ some k_ ≠ (.slice Ao79 t360.length co79 : Value).ownBlock ∧ some k_ ≠ (v364 : Value).ownBlock ∧ k_ ≠ gb348) (.slice Ao68 t349.length co68) t349) := ⟨by (with_reducible repeat (first | apply Kd.R_alloc | apply Kd.R_drewN | apply Kd.R_drew)); exact Kd.R_mono (Kd.R_far (p := ⟨gb335, 3, none⟩) (Kd.R_far (p := ⟨gb335, 2, none⟩) (Kd.R_far (p := ⟨gb335, 1, none⟩) (Kd.R_far (p := ⟨gb335, 0, none⟩) (Kd.R_types HO351.out BK335.out (by decide)) (fun _ hk => hk.2) (.int .i64 t355)) (fun _ hk => hk.2) (.int .i64 t356)) (fun _ hk => hk.2) (.slice Ao78 t357.length co78)) (fun _ hk => hk.2) (.slice Ao79 t360.length co79)) (fun _ hk => ⟨hk.1.1.1.1.1, ⟨hk.1.1.1.1.2.1, ⟨hk.1.1.1.1.2.2.1, ⟨hk.1.1.1.1.2.2.2.1, ⟨hk.1.1.1.2, ⟨hk.1.1.2, ⟨hk.1.2, hk.1.1.1.1.2.2.2.2⟩⟩⟩⟩⟩⟩⟩)⟩
     have n3_ : Aside0 (Kd.R k45 45 ((((w76.setCell ⟨gb335, 0, none⟩ (.int .i64 t355)).setCell ⟨gb335, 1, none⟩ (.int .i64 t356)).setCell ⟨gb335, 2, none⟩ (.slice Ao78 t357.length co78)).setCell ⟨gb335, 3, none⟩ (.slice Ao79 t360.length co79)) w0.heap.size (fun k_ => ((P0_2_ k_ ∨ P0_3_ k_) ∨ w.heap.size ≤ k_) ∧ some k_ ≠ (.slice (some ad347) l0_2.length co52 : Value).ownBlock ∧ some k_ ≠ (.slice Ao53 l0_3.length co53 : Value).ownBlock ∧ some k_ ≠ (.slice Ao68 t349.length co68 : Value).ownBlock ∧ some k_ ≠ (.slice Ao78 t357.length co78 : Value).ownBlock ∧ some k_ ≠ (.slice Ao79 t360.length co79 : Value).ownBlock ∧ some k_ ≠ (v364 : Value).ownBlock ∧ k_ ≠ gb348) (.slice Ao72 t352.length co72) t352) := ⟨by (with_reducible repeat (first | apply Kd.R_alloc | apply Kd.R_drewN | apply Kd.R_drew)); exact Kd.R_mono (Kd.R_far (p := ⟨gb335, 3, none⟩) (Kd.R_far (p := ⟨gb335, 2, none⟩) (Kd.R_far (p := ⟨gb335, 1, none⟩) (Kd.R_far (p := ⟨gb335, 0, none⟩) (Kd.R_types HO354.out BK335.out (by decide)) (fun _ hk => hk.2) (.int .i64 t355)) (fun _ hk => hk.2) (.int .i64 t356)) (fun _ hk => hk.2) (.slice Ao78 t357.length co78)) (fun _ hk => hk.2) (.slice Ao79 t360.length co79)) (fun _ hk => ⟨hk.1.1.1.1.1, ⟨hk.1.1.1.1.2.1, ⟨hk.1.1.1.1.2.2.1, ⟨hk.1.1.1.1.2.2.2.1, ⟨hk.1.1.1.2, ⟨hk.1.1.2, ⟨hk.1.2, hk.1.1.1.1.2.2.2.2⟩⟩⟩⟩⟩⟩⟩)⟩
     have n4_ : Aside0 (Kd.R k45 45 ((((w76.setCell ⟨gb335, 0, none⟩ (.int .i64 t355)).setCell ⟨gb335, 1, none⟩ (.int .i64 t356)).setCell ⟨gb335, 2, none⟩ (.slice Ao78 t357.length co78)).setCell ⟨gb335, 3, none⟩ (.slice Ao79 t360.length co79)) w0.heap.size (fun k_ => ((P0_2_ k_ ∨ P0_3_ k_) ∨ w.heap.size ≤ k_) ∧ some k_ ≠ (.slice (some ad347) l0_2.length co52 : Value).ownBlock ∧ some k_ ≠ (.slice Ao53 l0_3.length co53 : Value).ownBlock ∧ some k_ ≠ (.slice Ao68 t349.length co68 : Value).ownBlock ∧ some k_ ≠ (.slice Ao72 t352.length co72 : Value).ownBlock ∧ some k_ ≠ (.slice Ao79 t360.length co79 : Value).ownBlock ∧ some k_ ≠ (v364 : Value).ownBlock ∧ k_ ≠ gb348) (.slice Ao78 t357.length co78) t357) := ⟨by (with_reducible repeat (first | apply Kd.R_alloc | apply Kd.R_drewN | apply Kd.R_drew)); exact Kd.R_mono (Kd.R_far (p := ⟨gb335, 3, none⟩) (Kd.R_far (p := ⟨gb335, 2, none⟩) (Kd.R_far (p := ⟨gb335, 1, none⟩) (Kd.R_far (p := ⟨gb335, 0, none⟩) (Kd.R_types HO359.out BK335.out (by decide)) (fun _ hk => hk.2) (.int .i64 t355)) (fun _ hk => hk.2) (.int .i64 t356)) (fun _ hk => hk.2) (.slice Ao78 t357.length co78)) (fun _ hk => hk.2) (.slice Ao79 t360.length co79)) (fun _ hk => ⟨hk.1.1.1.1.1.1.1, ⟨hk.1.1.1.1.1.2, ⟨hk.1.1.1.1.2, ⟨hk.1.1.1.2, ⟨hk.1.1.2, ⟨hk.1.1.1.1.1.1.2.1, ⟨hk.1.1.1.1.1.1.2.2, hk.1.2⟩⟩⟩⟩⟩⟩⟩)⟩
     have n5_ : Aside0 (Kd.R k45 45 ((((w76.setCell ⟨gb335, 0, none⟩ (.int .i64 t355)).setCell ⟨gb335, 1, none⟩ (.int .i64 t356)).setCell ⟨gb335, 2, none⟩ (.slice Ao78 t357.length co78)).setCell ⟨gb335, 3, none⟩ (.slice Ao79 t360.length co79)) w0.heap.size (fun k_ => ((P0_2_ k_ ∨ P0_3_ k_) ∨ w.heap.size ≤ k_) ∧ some k_ ≠ (.slice (some ad347) l0_2.length co52 : Value).ownBlock ∧ some k_ ≠ (.slice Ao53 l0_3.length co53 : Value).ownBlock ∧ some k_ ≠ (.slice Ao68 t349.length co68 : Value).ownBlock ∧ some k_ ≠ (.slice Ao72 t352.length co72 : Value).ownBlock ∧ some k_ ≠ (.slice Ao78 t357.length co78 : Value).ownBlock ∧ some k_ ≠ (v364 : Value).ownBlock ∧ k_ ≠ gb348) (.slice Ao79 t360.length co79) t360) := ⟨by (with_reducible repeat (first | apply Kd.R_alloc | apply Kd.R_drewN | apply Kd.R_drew)); exact Kd.R_mono (Kd.R_far (p := ⟨gb335, 3, none⟩) (Kd.R_far (p := ⟨gb335, 2, none⟩) (Kd.R_far (p := ⟨gb335, 1, none⟩) (Kd.R_far (p := ⟨gb335, 0, none⟩) (Kd.R_types HO362.out BK335.out (by decide)) (fun _ hk => hk.2) (.int .i64 t355)) (fun _ hk => hk.2) (.int .i64 t356)) (fun _ hk => hk.2) (.slice Ao78 t357.length co78)) (fun _ hk => hk.2) (.slice Ao79 t360.length co79)) (fun _ hk => ⟨hk.1.1.1.1.1.1.1, ⟨hk.1.1.1.1.1.2, ⟨hk.1.1.1.1.2, ⟨hk.1.1.1.2, ⟨hk.1.1.2, ⟨hk.1.1.1.1.1.1.2.1, ⟨hk.1.1.1.1.1.1.2.2, hk.1.2⟩⟩⟩⟩⟩⟩⟩)⟩
     have n6_ : Aside0 (Kd.R k45 45 ((((w76.setCell ⟨gb335, 0, none⟩ (.int .i64 t355)).setCell ⟨gb335, 1, none⟩ (.int .i64 t356)).setCell ⟨gb335, 2, none⟩ (.slice Ao78 t357.length co78)).setCell ⟨gb335, 3, none⟩ (.slice Ao79 t360.length co79)) w0.heap.size (fun k_ => ((P0_2_ k_ ∨ P0_3_ k_) ∨ w.heap.size ≤ k_) ∧ some k_ ≠ (.slice (some ad347) l0_2.length co52 : Value).ownBlock ∧ some k_ ≠ (.slice Ao53 l0_3.length co53 : Value).ownBlock ∧ some k_ ≠ (.slice Ao68 t349.length co68 : Value).ownBlock ∧ some k_ ≠ (.slice Ao72 t352.length co72 : Value).ownBlock ∧ some k_ ≠ (.slice Ao78 t357.length co78 : Value).ownBlock ∧ some k_ ≠ (.slice Ao79 t360.length co79 : Value).ownBlock ∧ k_ ≠ gb348) v364 t363) := ⟨by (with_reducible repeat (first | apply Kd.R_alloc | apply Kd.R_drewN | apply Kd.R_drew)); exact Kd.R_mono (Kd.R_far (p := ⟨gb335, 3, none⟩) (Kd.R_far (p := ⟨gb335, 2, none⟩) (Kd.R_far (p := ⟨gb335, 1, none⟩) (Kd.R_far (p := ⟨gb335, 0, none⟩) (Kd.R_types HO365.out BK335.out (by decide)) (fun _ hk => hk.2) (.int .i64 t355)) (fun _ hk => hk.2) (.int .i64 t356)) (fun _ hk => hk.2) (.slice Ao78 t357.length co78)) (fun _ hk => hk.2) (.slice Ao79 t360.length co79)) (fun _ hk => ⟨hk.1.1.1.1.1.1.1, ⟨hk.1.1.1.1.1.2, ⟨hk.1.1.1.1.2, ⟨hk.1.1.1.2, ⟨hk.1.1.2, ⟨hk.1.1.1.1.1.1.2.1, ⟨hk.1.1.1.1.1.1.2.2, hk.1.2⟩⟩⟩⟩⟩⟩⟩)⟩
     have n7_ : Aside0 (((((w76.setCell ⟨gb335, 0, none⟩ (.int .i64 t355)).setCell ⟨gb335, 1, none⟩ (.int .i64 t356)).setCell ⟨gb335, 2, none⟩ (.slice Ao78 t357.length co78)).setCell ⟨gb335, 3, none⟩ (.slice Ao79 t360.length co79)).heap[gb335]? = some (.cells #[.int .i64 t355, .int .i64 t356, .slice Ao78 t357.length co78, .slice Ao79 t360.length co79] 28 (0, 0))) := ⟨by (with_reducible repeat (first | refine blk_drewN ?_ _ | refine blk_drew ?_ | refine blk_alloc ?_ _)); refine blk_put (cs := #[.int .i64 t355, .int .i64 t356, .slice Ao78 t357.length co78, .slice Ao72 t352.length co72]) ?_ 3 _ rfl; (with_reducible repeat (first | refine blk_drewN ?_ _ | refine blk_drew ?_ | refine blk_alloc ?_ _)); refine blk_put (cs := #[.int .i64 t355, .int .i64 t356, .slice Ao68 t349.length co68, .slice Ao72 t352.length co72]) ?_ 2 _ rfl; (with_reducible repeat (first | refine blk_drewN ?_ _ | refine blk_drew ?_ | refine blk_alloc ?_ _)); refine blk_put (cs := #[.int .i64 t355, .int .i64 a0_1, .slice Ao68 t349.length co68, .slice Ao72 t352.length co72]) ?_ 1 _ rfl; (with_reducible repeat (first | refine blk_drewN ?_ _ | refine blk_drew ?_ | refine blk_alloc ?_ _)); refine blk_put (cs := #[.int .i64 a0_0, .int .i64 a0_1, .slice Ao68 t349.length co68, .slice Ao72 t352.length co72]) ?_ 0 _ rfl; exact bk BK335.out⟩
     have n8_ : Aside0 (((((w76.setCell ⟨gb335, 0, none⟩ (.int .i64 t355)).setCell ⟨gb335, 1, none⟩ (.int .i64 t356)).setCell ⟨gb335, 2, none⟩ (.slice Ao78 t357.length co78)).setCell ⟨gb335, 3, none⟩ (.slice Ao79 t360.length co79)).heap[gb336]? = some (.cells #[.int .i64 0, .int .i64 0, .slice none 0 0, .slice none 0 0] 28 (0, 0))) := ⟨by (with_reducible repeat (first | refine blk_drewN ?_ _ | refine blk_drew ?_ | refine blk_alloc ?_ _)); refine blk_far ?_ NB336_335.out _; (with_reducible repeat (first | refine blk_drewN ?_ _ | refine blk_drew ?_ | refine blk_alloc ?_ _)); refine blk_far ?_ NB336_335.out _; (with_reducible repeat (first | refine blk_drewN ?_ _ | refine blk_drew ?_ | refine blk_alloc ?_ _)); refine blk_far ?_ NB336_335.out _; (with_reducible repeat (first | refine blk_drewN ?_ _ | refine blk_drew ?_ | refine blk_alloc ?_ _)); refine blk_far ?_ NB336_335.out _; exact bk BK336.out⟩
     have n9_ : Aside0 (((((w76.setCell ⟨gb335, 0, none⟩ (.int .i64 t355)).setCell ⟨gb335, 1, none⟩ (.int .i64 t356)).setCell ⟨gb335, 2, none⟩ (.slice Ao78 t357.length co78)).setCell ⟨gb335, 3, none⟩ (.slice Ao79 t360.length co79)).heap[gb348]? = some (.cells #[.string ((rd_T45 l0_2 t346).f0), .string ((rd_T45 l0_2 t346).f1)] 45 (0, 0))) := ⟨by (with_reducible repeat (first | refine blk_drewN ?_ _ | refine blk_drew ?_ | refine blk_alloc ?_ _)); refine blk_far ?_ NB348_335.out _; (with_reducible repeat (first | refine blk_drewN ?_ _ | refine blk_drew ?_ | refine blk_alloc ?_ _)); refine blk_far ?_ NB348_335.out _; (with_reducible repeat (first | refine blk_drewN ?_ _ | refine blk_drew ?_ | refine blk_alloc ?_ _)); refine blk_far ?_ NB348_335.out _; (with_reducible repeat (first | refine blk_drewN ?_ _ | refine blk_drew ?_ | refine blk_alloc ?_ _)); refine blk_far ?_ NB348_335.out _; exact bk BK348.out⟩
     have n10_ : Aside0 (Kept w ((((w76.setCell ⟨gb335, 0, none⟩ (.int .i64 t355)).setCell ⟨gb335, 1, none⟩ (.int .i64 t356)).setCell ⟨gb335, 2, none⟩ (.slice Ao78 t357.length co78)).setCell ⟨gb335, 3, none⟩ (.slice Ao79 t360.length co79)) (fun k_ => P0_2_ k_ ∨ P0_3_ k_)) := ⟨by repeat (first | (with_reducible first | exact HK.out | apply Kept.alloc | apply Kept.drewN | apply Kept.drew | refine Kept.setCell ?_ (.inr GW335.out) _ | refine Kept.setCell ?_ (.inr GW336.out) _ | refine Kept.setCell ?_ (.inr GW348.out) _) | exact HK.out)⟩
     have n11_ : Aside0 (Below w0.heap.size w0 ((((w76.setCell ⟨gb335, 0, none⟩ (.int .i64 t355)).setCell ⟨gb335, 1, none⟩ (.int .i64 t356)).setCell ⟨gb335, 2, none⟩ (.slice Ao78 t357.length co78)).setCell ⟨gb335, 3, none⟩ (.slice Ao79 t360.length co79))) := ⟨bl3 HB.out GE335.out GE336.out GE348.out⟩
     (try clear HO0_2)
     (try clear HO0_3)
     (try clear HO351)
     (try clear HO354)
     (try clear HO359)
     (try clear HO362)
     (try clear HO365)
     (try clear BK335)
     (try clear BK336)
     (try clear BK348)
     (try clear HK)
     (try clear HB)
     generalize ((((w76.setCell ⟨gb335, 0, none⟩ (.int .i64 t355)).setCell ⟨gb335, 1, none⟩ (.int .i64 t356)).setCell ⟨gb335, 2, none⟩ (.slice Ao78 t357.length co78)).setCell ⟨gb335, 3, none⟩ (.slice Ao79 t360.length co79)) = w80 at n0_ n1_ n2_ n3_ n4_ n5_ n6_ n7_ n8_ n9_ n10_ n11_ ⊢
     have HO0_2 := n0_
     have HO0_3 := n1_
     have HO351 := n2_
     have HO354 := n3_
     have HO359 := n4_
     have HO362 := n5_
     have HO365 := n6_
     have BK335 := n7_
     have BK336 := n8_
     have BK348 := n9_
     have HK := n10_
     have HB := n11_
     clear n0_ n1_ n2_ n3_ n4_ n5_ n6_ n7_ n8_ n9_ n10_ n11_
     replace HO0_2 := ak (Kd.R_drew HO0_2.out)
     replace HO0_3 := ak (Kd.R_drew HO0_3.out)
     replace HO351 := ak (Kd.R_drew HO351.out)
     replace HO354 := ak (Kd.R_drew HO354.out)
     replace HO359 := ak (Kd.R_drew HO359.out)
     replace HO362 := ak (Kd.R_drew HO362.out)
     replace HO365 := ak (Kd.R_drew HO365.out)
     replace BK335 := ak (blk_drew BK335.out)
     replace BK336 := ak (blk_drew BK336.out)
     replace BK348 := ak (blk_drew BK348.out)
     replace HK := ak (Kept.drew HK.out)
     replace HB := ak (below_drew1 HB.out)
     refine start_ (n := 6) (S := fun w' => w'.cell? ⟨gb335, 0, none⟩ = some (.int .i64 t355) ∧ w'.cell? ⟨gb335, 1, none⟩ = some (.int .i64 t356) ∧ w'.cell? ⟨gb335, 2, none⟩ = some (.slice Ao78 t357.length co78) ∧ w'.cell? ⟨gb335, 3, none⟩ = some (.slice Ao79 t360.length co79) ∧ w'.cell? ⟨gb348, 0, none⟩ = some (.string ((rd_T45 l0_2 t346).f0)) ∧ w'.cell? ⟨gb348, 1, none⟩ = some (.string ((rd_T45 l0_2 t346).f1))) (ds := []) #[false, false, false, false, false, false] (by kernel_rfl) rfl rfl ⟨(blk_cell BK335.out 0).trans rfl, (blk_cell BK335.out 1).trans rfl, (blk_cell BK335.out 2).trans rfl, (blk_cell BK335.out 3).trans rfl, (blk_cell BK348.out 0).trans rfl, (blk_cell BK348.out 1).trans rfl⟩ (fun hHeld => ?_)
     generalize w80.drew = w81 at HO0_2 HO0_3 HO351 HO354 HO359 HO362 HO365 BK335 BK336 BK348 HK HB hHeld ⊢
     refine pure_ (i := 1) (N := some 60) (v := ?_) (a' := ?_) #[false, true, false, false, false, false] rfl rfl (by kernel_rfl) (fun _ _ _ h => h) (Or.inl ⟨by rfl, ?_⟩) ?_ ?_
     rotate_left
     ·intro w'
      go_simp
      with_reducible rfl
     rotate_left
     ·simp only [Act.put, List.setIfInBounds_toArray, List.set_cons_zero, List.set_cons_succ, i64_w, i32_w]
      rfl
     refine take_ (i := 0) (N := some 59) (v := ?_) (a' := ?_) #[true, true, false, false, false, false] rfl rfl (by kernel_rfl) (fun _ _ _ h => h) (Or.inl ⟨by rfl, ?_⟩) hHeld ?_ ?_
     rotate_left
     ·rintro w' ⟨s0, s1, s2, s3, s4, s5⟩
      go_simp
      with_reducible rfl
     rotate_left
     ·simp only [Act.put, List.setIfInBounds_toArray, List.set_cons_zero, List.set_cons_succ, i64_w, i32_w]
      rfl
     refine take_ (i := 2) (N := some 61) (v := ?_) (a' := ?_) #[true, true, true, false, false, false] rfl rfl (by kernel_rfl) (fun _ _ _ h => h) (Or.inl ⟨by rfl, ?_⟩) hHeld ?_ ?_
     rotate_left
     ·rintro w' ⟨s0, s1, s2, s3, s4, s5⟩
      go_simp
      with_reducible rfl
     rotate_left
     ·simp only [Act.put, List.setIfInBounds_toArray, List.set_cons_zero, List.set_cons_succ, i64_w, i32_w]
      rfl
     refine one_ (i := 3) (N := none) #[true, true, true, true, false, false] rfl rfl (by kernel_rfl) (by decide) (fun K hK => ?_)
     have hs82 := bc0 BK336.out
     have hfs82 := blk_frozen BK336.out 0
     have hns82_0 := NB335_336.out
     have hns82_2 := NB348_336.out
     have hms82_0 := NB336_335.out
     have hms82_2 := NB336_348.out
     have hs83 := bc1 BK336.out
     have hfs83 := blk_frozen BK336.out 1
     have hns83_0 := NB335_336.out
     have hns83_2 := NB348_336.out
     have hms83_0 := NB336_335.out
     have hms83_2 := NB336_348.out
     have hs84 := bc2 BK336.out
     have hfs84 := blk_frozen BK336.out 2
     have hns84_0 := NB335_336.out
     have hns84_2 := NB348_336.out
     have hms84_0 := NB336_335.out
     have hms84_2 := NB336_348.out
     have hs85 := bc3 BK336.out
     have hfs85 := blk_frozen BK336.out 3
     have hns85_0 := NB335_336.out
     have hns85_2 := NB348_336.out
     have hms85_0 := NB336_335.out
     have hms85_2 := NB336_348.out
     refine skip_ (w1 := ?_) (by rfl) rfl ?_ ?_
     rotate_left
     ·go_simp
      rfl
     refine hK.out _ _ ⟨((cell_far (p := ⟨gb336, _, none⟩) NB335_336.out _).trans (((cell_far (p := ⟨gb336, _, none⟩) NB335_336.out _).trans (((cell_far (p := ⟨gb336, _, none⟩) NB335_336.out _).trans (((cell_far (p := ⟨gb336, _, none⟩) NB335_336.out _).trans (hHeld.1)))))))), ((cell_far (p := ⟨gb336, _, none⟩) NB335_336.out _).trans (((cell_far (p := ⟨gb336, _, none⟩) NB335_336.out _).trans (((cell_far (p := ⟨gb336, _, none⟩) NB335_336.out _).trans (((cell_far (p := ⟨gb336, _, none⟩) NB335_336.out _).trans (hHeld.2.1)))))))), ((cell_far (p := ⟨gb336, _, none⟩) NB335_336.out _).trans (((cell_far (p := ⟨gb336, _, none⟩) NB335_336.out _).trans (((cell_far (p := ⟨gb336, _, none⟩) NB335_336.out _).trans (((cell_far (p := ⟨gb336, _, none⟩) NB335_336.out _).trans (hHeld.2.2.1)))))))), ((cell_far (p := ⟨gb336, _, none⟩) NB335_336.out _).trans (((cell_far (p := ⟨gb336, _, none⟩) NB335_336.out _).trans (((cell_far (p := ⟨gb336, _, none⟩) NB335_336.out _).trans (((cell_far (p := ⟨gb336, _, none⟩) NB335_336.out _).trans (hHeld.2.2.2.1)))))))), ((cell_far (p := ⟨gb336, _, none⟩) NB348_336.out _).trans (((cell_far (p := ⟨gb336, _, none⟩) NB348_336.out _).trans (((cell_far (p := ⟨gb336, _, none⟩) NB348_336.out _).trans (((cell_far (p := ⟨gb336, _, none⟩) NB348_336.out _).trans (hHeld.2.2.2.2.1)))))))), ((cell_far (p := ⟨gb336, _, none⟩) NB348_336.out _).trans (((cell_far (p := ⟨gb336, _, none⟩) NB348_336.out _).trans (((cell_far (p := ⟨gb336, _, none⟩) NB348_336.out _).trans (((cell_far (p := ⟨gb336, _, none⟩) NB348_336.out _).trans (hHeld.2.2.2.2.2))))))))⟩ (fun hHeld => ?_)
     clear hK K
     refine pure_ (i := 4) (N := some 5) (v := ?_) (a' := ?_) #[true, true, true, true, true, false] rfl rfl (by kernel_rfl) (fun _ _ _ h => h) (Or.inl ⟨by rfl, ?_⟩) ?_ ?_
     rotate_left
     ·intro w'
      go_simp
      with_reducible rfl
     rotate_left
     ·simp only [Act.put, List.setIfInBounds_toArray, List.set_cons_zero, List.set_cons_succ, i64_w, i32_w]
      rfl
     refine pure_ (i := 5) (N := some 6) (v := ?_) (a' := ?_) #[true, true, true, true, true, true] rfl rfl (by kernel_rfl) (fun _ _ _ h => h) (Or.inl ⟨by rfl, ?_⟩) ?_ ?_
     rotate_left
     ·intro w'
      go_simp
      with_reducible rfl
     rotate_left
     ·simp only [Act.put, List.setIfInBounds_toArray, List.set_cons_zero, List.set_cons_succ, i64_w, i32_w]
      rfl
     refine done_ (by kernel_rfl) ?_
     try go_wp2
     refine bodyPost_ret (results_ctt rfl _ _ gb336 28 #[.int .i64 t355, .int .i64 t356, .slice Ao78 t357.length co78, .slice Ao79 t360.length co79] (0, 0) _ rfl (bq BK336.out) Try.underlying28 rfl (by kernel_rfl)) rfl ?_
     exact ⟨_, _, by first | rfl | (simp [errW_none, errW_some] <;> rfl) | (simp [*, errW_none, errW_some] <;> rfl), by (with_reducible repeat (first | apply Kd.R_alloc | apply Kd.R_drewN | apply Kd.R_drew)); exact Kd.R_mono (Kd.R_far (p := ⟨gb336, 3, none⟩) (Kd.R_far (p := ⟨gb336, 2, none⟩) (Kd.R_far (p := ⟨gb336, 1, none⟩) (Kd.R_far (p := ⟨gb336, 0, none⟩) (Kd.R_types HO359.out BK336.out (by decide)) (fun _ hk => hk.2) (.int .i64 t355)) (fun _ hk => hk.2) (.int .i64 t356)) (fun _ hk => hk.2) (.slice Ao78 t357.length co78)) (fun _ hk => hk.2) (.slice Ao79 t360.length co79)) (fun _ hk => ⟨hk.1.1, hk.1.2.2.2.2.2.1⟩), by (with_reducible repeat (first | apply Kd.R_alloc | apply Kd.R_drewN | apply Kd.R_drew)); exact Kd.R_mono (Kd.R_far (p := ⟨gb336, 3, none⟩) (Kd.R_far (p := ⟨gb336, 2, none⟩) (Kd.R_far (p := ⟨gb336, 1, none⟩) (Kd.R_far (p := ⟨gb336, 0, none⟩) (Kd.R_types HO362.out BK336.out (by decide)) (fun _ hk => hk.2) (.int .i64 t355)) (fun _ hk => hk.2) (.int .i64 t356)) (fun _ hk => hk.2) (.slice Ao78 t357.length co78)) (fun _ hk => hk.2) (.slice Ao79 t360.length co79)) (fun _ hk => ⟨hk.1.1, hk.1.2.2.2.2.2.1⟩), bl3 HB.out GE335.out GE336.out GE348.out, by repeat (first | (with_reducible first | exact HK.out | apply Kept.alloc | apply Kept.drewN | apply Kept.drew | refine Kept.setCell ?_ (.inr GW335.out) _ | refine Kept.setCell ?_ (.inr GW336.out) _ | refine Kept.setCell ?_ (.inr GW348.out) _) | exact HK.out)⟩
    ·rw [if_neg c48] at H
     exact absurd H (by simp)
   ·rw [if_neg c47] at H
    exact absurd H (by simp)

/-! ### spec_GetEntry: function 30 -/
def spec_GetEntry.f (k : Nat) (a0_0 : Int) (a0_1 : Int) (l0_2 : List (S45)) (l0_3 : List (S45)) (a1 : ByteArray) : Option (Int × Int × (List (S45)) × (List (S45)) × ByteArray × Bool) := (spec_GoodSegmented.f k a0_0 a0_1 l0_2 l0_3).bind fun t368 => (if t368 = true then ((spec_l12Own.f a0_0 a0_1 l0_2 l0_3).bind fun bt369 => ((spec_l12Get.f k bt369.1 bt369.2.1 bt369.2.2.1 bt369.2.2.2 a1).bind fun bt377 => (some (bt377.1, bt377.2.1, bt377.2.2.1, bt377.2.2.2.1, bt377.2.2.2.2.1, bt377.2.2.2.2.2)))) else (some (0, 0, ([] : List (S45)), ([] : List (S45)), (⟨#[]⟩ : ByteArray), false)))
theorem spec_GetEntry.mono : ∀ a0 a1 a2 a3 a4 k, LeO (spec_GetEntry.f k a0 a1 a2 a3 a4) (spec_GetEntry.f (k + 1) a0 a1 a2 a3 a4) := by
 intro a0 a1 a2 a3 a4 k
 unfold spec_GetEntry.f
 repeat' first
   | (with_reducible exact spec_GoodSegmented.mono _ _ _ _ _)
   | (with_reducible exact spec_l12Get.mono _ _ _ _ _ _)
   | (with_reducible exact LeO.refl _)
   | (with_reducible exact LeO.none _)
   | (with_reducible refine LeO.ite ?_ ?_)
   | (with_reducible refine LeO.bind ?_ (fun _ => ?_))
   | exact spec_GoodSegmented.mono _ _ _ _ _
   | exact spec_l12Get.mono _ _ _ _ _ _
   | exact LeO.none _
   | refine LeO.ite ?_ ?_
   | refine LeO.bind ?_ (fun _ => ?_)
set_option maxHeartbeats 8000000 in
set_option maxRecDepth 100000 in
theorem spec_GetEntry.calls (k : Nat) (a0_0 : Int) (a0_1 : Int) (A0_2 : Option Addr) (c0_2 : Nat) (l0_2 : List (S45)) (A0_3 : Option Addr) (c0_3 : Nat) (l0_3 : List (S45)) (a1 : ByteArray) (r1 : Int) (r2 : Int) (r3 : List (S45)) (r4 : List (S45)) (r5 : ByteArray) (r6 : Bool) (w : World) (hr0_2 : Kd.C k45 w A0_2 l0_2.length l0_2) (hc0_2 : l0_2.length ≤ c0_2) (hr0_3 : Kd.C k45 w A0_3 l0_3.length l0_3) (hc0_3 : l0_3.length ≤ c0_3) (h : spec_GetEntry.f k a0_0 a0_1 l0_2 l0_3 a1 = some (r1, r2, r3, r4, r5, r6)) :
  Calls Try.prog 30 #[.agg #[.int .i64 a0_0, .int .i64 a0_1, .slice A0_2 l0_2.length c0_2, .slice A0_3 l0_3.length c0_3], .string a1] w fun e w' => ∃ v2_ v3_ : Value, e = .returned (.tuple #[.agg #[.int .i64 r1, .int .i64 r2, v2_, v3_], .string r5, .bool r6]) ∧ Kd.R k45 45 w' w.heap.size (fun k_ => some k_ ≠ (v3_ : Value).ownBlock) v2_ r3 ∧ Kd.R k45 45 w' w.heap.size (fun k_ => some k_ ≠ (v2_ : Value).ownBlock) v3_ r4 ∧ Below w.heap.size w w' := by
 have hu28 := Try.underlying28
 have HR0_2 := ak hr0_2
 have HC0_2 := ak hc0_2
 clear hr0_2 hc0_2
 have HR0_3 := ak hr0_3
 have HC0_3 := ak hc0_3
 clear hr0_3 hc0_3
 have HB := ak (Below.refl w.heap.size w)
 have H : ((spec_GoodSegmented.f k a0_0 a0_1 l0_2 l0_3).bind fun t368 => (if t368 = true then ((spec_l12Own.f a0_0 a0_1 l0_2 l0_3).bind fun bt369 => ((spec_l12Get.f k bt369.1 bt369.2.1 bt369.2.2.1 bt369.2.2.2 a1).bind fun bt377 => (some (bt377.1, bt377.2.1, bt377.2.2.1, bt377.2.2.2.1, bt377.2.2.2.2.1, bt377.2.2.2.2.2)))) else (some (0, 0, ([] : List (S45)), ([] : List (S45)), (⟨#[]⟩ : ByteArray), false)))) = some (r1, r2, r3, r4, r5, r6) := h
 clear h
 replace H := Option.bind_eq_some_iff.mp H
 obtain ⟨t368, A30, H⟩ := H
 try dsimp only at H
 have A3 := ak A30
 clear A30
 by_cases c4 : t368 = true
 ·subst c4
  have H1 : ((spec_l12Own.f a0_0 a0_1 l0_2 l0_3).bind fun bt369 => ((spec_l12Get.f k bt369.1 bt369.2.1 bt369.2.2.1 bt369.2.2.2 a1).bind fun bt377 => (some (bt377.1, bt377.2.1, bt377.2.2.1, bt377.2.2.2.1, bt377.2.2.2.2.1, bt377.2.2.2.2.2)))) = some (r1, r2, r3, r4, r5, r6) := by rw [if_pos rfl] at H; exact H
  clear H
  have H := H1
  clear H1
  replace H := Option.bind_eq_some_iff.mp H
  obtain ⟨⟨t369, t370, t371, t374⟩, A50, H⟩ := H
  try dsimp only at H
  have A5 := ak A50
  clear A50
  replace H := Option.bind_eq_some_iff.mp H
  obtain ⟨⟨t377, t378, t379, t382, t385, t386⟩, A60, H⟩ := H
  try dsimp only at H
  have A6 := ak A60
  clear A60
  simp only [Option.some.injEq, Prod.mk.injEq] at H
  obtain ⟨rfl, rfl, rfl, rfl, rfl, rfl⟩ := H
  go_enter Try.func30, Try.ntmps30
  go_wp2_with (first | (refine bE 2 #[.int .i64 a0_0, .int .i64 a0_1, .slice A0_2 l0_2.length c0_2, .slice A0_3 l0_3.length c0_3] 28 ?_; intro gb366 hg w7 hbox hb; have BK366 := ak hbox; have GW366 := gs hg (bl HB.out); have GE366 := gs hg (bl HB.out); replace HB := ak (below_step (bl HB.out) hb); clear hb hbox hg) | (refine bE 4 #[.int .i64 0, .int .i64 0, .slice none 0 0, .slice none 0 0] 28 ?_; intro gb367 hg w8 hbox hb; have BK367 := ak hbox; have GW367 := gs hg (bl1 HB.out GE366.out); have GE367 := gs hg (bl1 HB.out GE366.out); replace HB := ak (below_step (bl1 HB.out GE366.out) hb); have NB366_367 := nl hg BK366.out; have NB367_366 := ng hg BK366.out; replace BK366 := ak (blk_below (bk BK366.out) hb); clear hb hbox hg; have hnb9 := NB366_367.out; have hnc9 := NB367_366.out; obtain ⟨hcz10_0, hcz10_1, hcz10_2, hcz10_3, hfz10_0, hfz10_1, hfz10_2, hfz10_3⟩ := b4 BK366.out) | (refine gL 41 Try.func41 (some 8) #[.agg #[.int .i64 a0_0, .int .i64 a0_1, .slice A0_2 l0_2.length c0_2, .slice A0_3 l0_3.length c0_3]] ?_; (with_reducible refine (spec_GoodSegmented.calls k a0_0 a0_1 _ _ l0_2 _ _ l0_3 true _ ?side1 ?side2 ?side3 ?side4 A3.out).mono ?_); (case side1 => exact kc (Kd.C_below HR0_2.out HB.out)); (case side2 => exact HC0_2.out); (case side3 => exact kc (Kd.C_below HR0_3.out HB.out)); (case side4 => exact HC0_3.out); rintro e w11 ⟨rfl, hb⟩; refine ⟨_, rfl, ?_⟩; replace BK366 := ak (blk_below (bk BK366.out) hb); replace BK367 := ak (blk_below (bk BK367.out) hb); replace HB := ak (below_step (bl2 HB.out GE366.out GE367.out) hb); clear hb; obtain ⟨hcz12_0, hcz12_1, hcz12_2, hcz12_3, hfz12_0, hfz12_1, hfz12_2, hfz12_3⟩ := b4 BK366.out) | (refine gL 42 Try.func42 (some 12) #[.agg #[.int .i64 a0_0, .int .i64 a0_1, .slice A0_2 l0_2.length c0_2, .slice A0_3 l0_3.length c0_3]] ?_; (with_reducible refine (spec_l12Own.calls a0_0 a0_1 _ _ l0_2 _ _ l0_3 t369 t370 t371 t374 _ ?side1 ?side2 ?side3 ?side4 A5.out).mono ?_); (case side1 => exact kc (Kd.C_below HR0_2.out HB.out)); (case side2 => exact HC0_2.out); (case side3 => exact kc (Kd.C_below HR0_3.out HB.out)); (case side4 => exact HC0_3.out); rintro e w13 ⟨v372, v375, rfl, ho0, ho1, hb⟩; refine ⟨_, rfl, ?_⟩; have HO373 := ak (Kd.R_lower ho0 (below_size (bl2 HB.out GE366.out GE367.out))); have HO376 := ak (Kd.R_lower ho1 (below_size (bl2 HB.out GE366.out GE367.out))); replace BK366 := ak (blk_below (bk BK366.out) hb); replace BK367 := ak (blk_below (bk BK367.out) hb); replace HB := ak (below_step (bl2 HB.out GE366.out GE367.out) hb); clear hb ho0 ho1; obtain ⟨Ao14, co14, eo14⟩ := Kd.R_slice HO373.out; subst eo14; obtain ⟨Ao15, co15, eo15⟩ := Kd.R_slice HO376.out; subst eo15) | (refine gL 57 Try.func57 (some 14) #[.agg #[.int .i64 t369, .int .i64 t370, .slice Ao14 t371.length co14, .slice Ao15 t374.length co15], .string a1] ?_; (with_reducible refine (spec_l12Get.calls k t369 t370 (fun k_ => some k_ = (.slice Ao14 t371.length co14 : Value).ownBlock) (.slice Ao14 t371.length co14) t371 (fun k_ => some k_ = (.slice Ao15 t374.length co15 : Value).ownBlock) (.slice Ao15 t374.length co15) t374 a1 t377 t378 t379 t382 t385 t386 w _ ?side1 ?side2 ?side3 ?side4 ?side5 A6.out).mono ?_); (case side1 => exact bl2 HB.out GE366.out GE367.out); (case side2 => exact Kd.R_tight rfl HO373.out); (case side3 => exact fun k_ e_ => (HO373.out.1 k_ e_.symm)); (case side4 => exact Kd.R_tight rfl HO376.out); (case side5 => exact fun k_ e_ => (HO376.out.1 k_ e_.symm)); rintro e w16 ⟨v380, v383, rfl, ho0, ho1, hb, hkp⟩; refine ⟨_, rfl, ?_⟩; replace BK366 := ak (blk_kept (bk BK366.out) hkp (fun hs_ => Or.elim hs_ (fun e_ => (fun e_ => (Kd.R_ne HO373.out BK366.out (by decide)) e_) e_) (fun e_ => (fun e_ => (Kd.R_ne HO376.out BK366.out (by decide)) e_) e_))); replace BK367 := ak (blk_kept (bk BK367.out) hkp (fun hs_ => Or.elim hs_ (fun e_ => (fun e_ => (Kd.R_ne HO373.out BK367.out (by decide)) e_) e_) (fun e_ => (fun e_ => (Kd.R_ne HO376.out BK367.out (by decide)) e_) e_))); have HO381 := ak (Kd.R_mono (ok' := fun k_ => some k_ ≠ (v383 : Value).ownBlock) ho0 (fun k_ hk_ => hk_.2)); have HO384 := ak (Kd.R_mono (ok' := fun k_ => some k_ ≠ (v380 : Value).ownBlock) ho1 (fun k_ hk_ => hk_.2)); replace HB := ak hb; clear HO373 HO376; clear hb hkp ho0 ho1; obtain ⟨hcz17_0, hcz17_1, hcz17_2, hcz17_3, hfz17_0, hfz17_1, hfz17_2, hfz17_3⟩ := b4 BK367.out; obtain ⟨Ao18, co18, eo18⟩ := Kd.R_slice HO381.out; subst eo18; obtain ⟨Ao19, co19, eo19⟩ := Kd.R_slice HO384.out; subst eo19))
  refine bodyPost_ret (results_ctt rfl _ _ gb367 28 #[.int .i64 t377, .int .i64 t378, .slice Ao18 t379.length co18, .slice Ao19 t382.length co19] (0, 0) _ rfl (bq BK367.out) Try.underlying28 rfl (by kernel_rfl)) rfl ?_
  exact ⟨_, _, by first | rfl | (simp [errW_none, errW_some] <;> rfl) | (simp [*, errW_none, errW_some] <;> rfl), by (with_reducible repeat (first | apply Kd.R_alloc | apply Kd.R_drewN | apply Kd.R_drew)); exact Kd.R_mono (Kd.R_far (p := ⟨gb367, 3, none⟩) (Kd.R_far (p := ⟨gb367, 2, none⟩) (Kd.R_far (p := ⟨gb367, 1, none⟩) (Kd.R_far (p := ⟨gb367, 0, none⟩) (Kd.R_types HO381.out BK367.out (by decide)) (fun _ hk => hk.2) (.int .i64 t377)) (fun _ hk => hk.2) (.int .i64 t378)) (fun _ hk => hk.2) (.slice Ao18 t379.length co18)) (fun _ hk => hk.2) (.slice Ao19 t382.length co19)) (fun _ hk => hk.1), by (with_reducible repeat (first | apply Kd.R_alloc | apply Kd.R_drewN | apply Kd.R_drew)); exact Kd.R_mono (Kd.R_far (p := ⟨gb367, 3, none⟩) (Kd.R_far (p := ⟨gb367, 2, none⟩) (Kd.R_far (p := ⟨gb367, 1, none⟩) (Kd.R_far (p := ⟨gb367, 0, none⟩) (Kd.R_types HO384.out BK367.out (by decide)) (fun _ hk => hk.2) (.int .i64 t377)) (fun _ hk => hk.2) (.int .i64 t378)) (fun _ hk => hk.2) (.slice Ao18 t379.length co18)) (fun _ hk => hk.2) (.slice Ao19 t382.length co19)) (fun _ hk => hk.1), bl2 HB.out GE366.out GE367.out⟩
 ·replace c4 := Bool.eq_false_iff.mpr c4
  subst c4
  have H1 : (some (0, 0, ([] : List (S45)), ([] : List (S45)), (⟨#[]⟩ : ByteArray), false)) = some (r1, r2, r3, r4, r5, r6) := by rw [if_neg (show ¬ (false = true) by decide)] at H; exact H
  clear H
  have H := H1
  clear H1
  simp only [Option.some.injEq, Prod.mk.injEq] at H
  obtain ⟨rfl, rfl, rfl, rfl, rfl, rfl⟩ := H
  go_enter Try.func30, Try.ntmps30
  go_wp2_with (first | (refine bE 2 #[.int .i64 a0_0, .int .i64 a0_1, .slice A0_2 l0_2.length c0_2, .slice A0_3 l0_3.length c0_3] 28 ?_; intro gb366 hg w20 hbox hb; have BK366 := ak hbox; have GW366 := gs hg (bl HB.out); have GE366 := gs hg (bl HB.out); replace HB := ak (below_step (bl HB.out) hb); clear hb hbox hg) | (refine bE 4 #[.int .i64 0, .int .i64 0, .slice none 0 0, .slice none 0 0] 28 ?_; intro gb367 hg w21 hbox hb; have BK367 := ak hbox; have GW367 := gs hg (bl1 HB.out GE366.out); have GE367 := gs hg (bl1 HB.out GE366.out); replace HB := ak (below_step (bl1 HB.out GE366.out) hb); have NB366_367 := nl hg BK366.out; have NB367_366 := ng hg BK366.out; replace BK366 := ak (blk_below (bk BK366.out) hb); clear hb hbox hg; have hnb22 := NB366_367.out; have hnc22 := NB367_366.out; obtain ⟨hcz23_0, hcz23_1, hcz23_2, hcz23_3, hfz23_0, hfz23_1, hfz23_2, hfz23_3⟩ := b4 BK366.out) | (refine gL 41 Try.func41 (some 8) #[.agg #[.int .i64 a0_0, .int .i64 a0_1, .slice A0_2 l0_2.length c0_2, .slice A0_3 l0_3.length c0_3]] ?_; (with_reducible refine (spec_GoodSegmented.calls k a0_0 a0_1 _ _ l0_2 _ _ l0_3 false _ ?side1 ?side2 ?side3 ?side4 A3.out).mono ?_); (case side1 => exact kc (Kd.C_below HR0_2.out HB.out)); (case side2 => exact HC0_2.out); (case side3 => exact kc (Kd.C_below HR0_3.out HB.out)); (case side4 => exact HC0_3.out); rintro e w24 ⟨rfl, hb⟩; refine ⟨_, rfl, ?_⟩; replace BK366 := ak (blk_below (bk BK366.out) hb); replace BK367 := ak (blk_below (bk BK367.out) hb); replace HB := ak (below_step (bl2 HB.out GE366.out GE367.out) hb); clear hb; obtain ⟨hcz25_0, hcz25_1, hcz25_2, hcz25_3, hfz25_0, hfz25_1, hfz25_2, hfz25_3⟩ := b4 BK367.out))
  refine bodyPost_ret (results_ctt rfl _ _ gb367 28 #[.int .i64 0, .int .i64 0, .slice none 0 0, .slice none 0 0] (0, 0) _ rfl (bq BK367.out) Try.underlying28 rfl (by kernel_rfl)) rfl ?_
  exact ⟨_, _, by first | rfl | (simp [errW_none, errW_some] <;> rfl) | (simp [*, errW_none, errW_some] <;> rfl), by first | exact Kd.R_nil _ _ _ _ _ | exact Kd.N_nil _ _ _ _ _ | exact Kd.V_nil _ _ _ _ _ | exact Kd.Q_nil _ _ _ _ _ | exact Kd.S_nil _ _ _ _ _, by first | exact Kd.R_nil _ _ _ _ _ | exact Kd.N_nil _ _ _ _ _ | exact Kd.V_nil _ _ _ _ _ | exact Kd.Q_nil _ _ _ _ _ | exact Kd.S_nil _ _ _ _ _, bl2 HB.out GE366.out GE367.out⟩

/-! ### get: function 53 -/
def impl_Segmented_get.f (k : Nat) (a0_0 : Int) (a0_1 : Int) (l0_2 : List (S45)) (l0_3 : List (S45)) (a1 : ByteArray) : Option (Int × Int × (List (S45)) × (List (S45)) × ByteArray × Bool) := (impl_Segmented_own.f a0_0 a0_1 l0_2 l0_3).bind fun o => (if (takeE a1 o.2.2.1 o.2.2.2).2.2.1 = true then ((impl_ahead.f (takeE a1 o.2.2.1 o.2.2.2).2.2.2.2 (takeE a1 o.2.2.1 o.2.2.2).1.f0 (takeE a1 o.2.2.1 o.2.2.2).1.f1).bind fun q => (settleE.f k o.1 o.2.1 (takeE a1 o.2.2.1 o.2.2.2).2.2.2.1 q).bind fun z => some (o.1, o.2.1, z.1, z.2.1, (takeE a1 o.2.2.1 o.2.2.2).1.f1, true)) else some (o.1, o.2.1, (takeE a1 o.2.2.1 o.2.2.2).2.2.2.1, (takeE a1 o.2.2.1 o.2.2.2).2.2.2.2, (⟨#[]⟩ : ByteArray), false))
theorem impl_Segmented_get.mono : ∀ a0_0 a0_1 l0_2 l0_3 a1 k, LeO (impl_Segmented_get.f k a0_0 a0_1 l0_2 l0_3 a1) (impl_Segmented_get.f (k + 1) a0_0 a0_1 l0_2 l0_3 a1) := by
 intro a0_0 a0_1 l0_2 l0_3 a1 k
 unfold impl_Segmented_get.f
 repeat' first
   | (with_reducible exact settleE.mono _ _ _ _ _)
   | (with_reducible exact LeO.refl _)
   | (with_reducible exact LeO.none _)
   | (with_reducible refine LeO.ite ?_ ?_)
   | (with_reducible refine LeO.bind ?_ (fun _ => ?_))

set_option maxHeartbeats 4000000 in
set_option maxRecDepth 100000 in
theorem impl_Segmented_get.calls (k : Nat) (a0_0 : Int) (a0_1 : Int) (A0_2 : Option Addr) (c0_2 : Nat) (l0_2 : List (S45)) (A0_3 : Option Addr) (c0_3 : Nat) (l0_3 : List (S45)) (a1 : ByteArray) (r1 : Int) (r2 : Int) (r3 : List (S45)) (r4 : List (S45)) (r5 : ByteArray) (r6 : Bool) (w : World) (hr0_2 : Kd.C k45 w A0_2 l0_2.length l0_2) (hc0_2 : l0_2.length ≤ c0_2) (hr0_3 : Kd.C k45 w A0_3 l0_3.length l0_3) (hc0_3 : l0_3.length ≤ c0_3) (h : impl_Segmented_get.f k a0_0 a0_1 l0_2 l0_3 a1 = some (r1, r2, r3, r4, r5, r6)) :
  Calls Try.prog 53 #[.agg #[.int .i64 a0_0, .int .i64 a0_1, .slice A0_2 l0_2.length c0_2, .slice A0_3 l0_3.length c0_3], .string a1] w fun e w' => ∃ v2_ v3_ : Value, e = .returned (.tuple #[.agg #[.int .i64 r1, .int .i64 r2, v2_, v3_], .string r5, .bool r6]) ∧ Kd.R k45 45 w' w.heap.size (fun k_ => some k_ ≠ (v3_ : Value).ownBlock) v2_ r3 ∧ Kd.R k45 45 w' w.heap.size (fun k_ => some k_ ≠ (v2_ : Value).ownBlock) v3_ r4 ∧ Below w.heap.size w w' := by
 have HR2 := ak hr0_2
 have HR3 := ak hr0_3
 have HC2 := ak hc0_2
 have HC3 := ak hc0_3
 clear hr0_2 hr0_3 hc0_2 hc0_3
 have hu28 := Try.underlying28
 have hu45 := Try.underlying45
 unfold impl_Segmented_get.f at h
 obtain ⟨⟨o1, o2, t0, s0⟩, A1, h2⟩ := Option.bind_eq_some_iff.mp h
 clear h
 obtain ⟨rfl, rfl⟩ := own_numbers A1
 have h := h2
 clear h2
 dsimp only at h
 have A1 := ak A1
 by_cases hc : (takeE a1 t0 s0).2.2.1 = true
 ·rw [if_pos hc] at h
  have HTK : Aside0 ((takeE a1 t0 s0).2.2.1 = true) := ⟨hc⟩
  clear hc
  obtain ⟨q, A2, h⟩ := Option.bind_eq_some_iff.mp h
  obtain ⟨⟨t2, s2, th⟩, A3, h⟩ := Option.bind_eq_some_iff.mp h
  simp only [Option.some.injEq, Prod.mk.injEq] at h
  obtain ⟨rfl, rfl, rfl, rfl, rfl, rfl⟩ := h
  try dsimp only at A2 A3
  have A2 := ak A2
  have A3 := ak A3
  go_enter Try.func53, Try.ntmps53
  go_wp2_with (first
     | (refine bE 2 #[.int .i64 a0_0, .int .i64 a0_1, .slice A0_2 l0_2.length c0_2, .slice A0_3 l0_3.length c0_3] 28 ?_; intro b2 hb2 x1 kb hb; have HB := ak hb; have K2 := ak kb; clear hb kb hb2)
     | (refine bE 4 #[.int .i64 0, .int .i64 0, .slice none 0 0, .slice none 0 0] 28 ?_; intro b4 hb4 x3 kb hb; have G4 : Aside0 (w.heap.size ≤ b4) := ⟨by rw [hb4]; exact HB.out.size⟩; have n0_ := ak (below_then HB.out HB.out.size hb); have n1_ := ak (blk_below K2.out hb); clear HB K2; have HB := n0_; have K2 := n1_; have K4 := ak kb; clear hb kb hb4 n0_ n1_; have hz0 : x3.cell? ⟨b2, 0, none⟩ = some (.int .i64 a0_0) := (blk_cell K2.out 0).trans rfl; have hz1 : x3.cell? ⟨b2, 1, none⟩ = some (.int .i64 a0_1) := (blk_cell K2.out 1).trans rfl; have hz2 : x3.cell? ⟨b2, 2, none⟩ = some (.slice A0_2 l0_2.length c0_2) := (blk_cell K2.out 2).trans rfl; have hz3 : x3.cell? ⟨b2, 3, none⟩ = some (.slice A0_3 l0_3.length c0_3) := (blk_cell K2.out 3).trans rfl)
     | (go_at_call 45; (with_reducible refine (impl_Segmented_own.calls a0_0 a0_1 A0_2 c0_2 l0_2 A0_3 c0_3 l0_3 a0_0 a0_1 t0 s0 x3 (Kd.C_below HR2.out HB.out) HC2.out (Kd.C_below HR3.out HB.out) HC3.out A1.out).mono ?_); rintro e x4 ⟨vt, vs, rfl, ho1, ho2, hb⟩; have HT := ak ho1; have HS := ak ho2; have BO := ak hb; clear ho1 ho2 hb hz0 hz1 hz2 hz3; obtain ⟨At, ct, et⟩ := Kd.R_slice HT.out; subst et; obtain ⟨As, cs, es⟩ := Kd.R_slice HS.out; subst es)
     | (go_at_call 46; refine (take.calls x3.heap.size x4.heap.size a0_0 a0_1 (.slice At t0.length ct) (.slice As s0.length cs) t0 s0 a1 x3 _ ⟨blk_new x4 _, BO.out.size, Kd.R_alloc HT.out _, Kd.R_alloc HS.out _⟩ (BO.out.alloc BO.out.size _) (by have := BO.out.size; simp only [World.size_alloc]; omega)).mono ?_; rintro e x5 ⟨rfl, ⟨vt', vs', hseg⟩, hb, hk⟩; rw [HTK.out]; have SG := ak hseg; have B5 := ak hb; clear hseg hb hk; obtain ⟨At', ct', et⟩ := Kd.R_slice SG.out.ht; subst et; obtain ⟨As', cs', es⟩ := Kd.R_slice SG.out.hs; subst es; have hg5 : x4.heap.size < x5.heap.size := blk_lt SG.out.blk; have hm0 : x5.cell? ⟨x4.heap.size, 0, none⟩ = some (.int .i64 a0_0) := (blk_cell SG.out.blk 0).trans rfl; have hm1 : x5.cell? ⟨x4.heap.size, 1, none⟩ = some (.int .i64 a0_1) := (blk_cell SG.out.blk 1).trans rfl; have hm2 : x5.cell? ⟨x4.heap.size, 2, none⟩ = some (.slice At' (takeE a1 t0 s0).2.2.2.1.length ct') := (blk_cell SG.out.blk 2).trans rfl; have hm3 : x5.cell? ⟨x4.heap.size, 3, none⟩ = some (.slice As' (takeE a1 t0 s0).2.2.2.2.length cs') := (blk_cell SG.out.blk 3).trans rfl)
     | (go_at_call 77; refine (impl_ahead.calls As' cs' (takeE a1 t0 s0).2.2.2.2 (takeE a1 t0 s0).1.f0 (takeE a1 t0 s0).1.f1 q _ (Kd.C_alloc (Kd.R_reads' SG.out.hs).2.2 _) (Kd.R_reads' SG.out.hs).2.1 A2.out).mono ?_; rintro e x6 ⟨v6, rfl, ho, hb⟩; have O6 : Aside0 (Kd.R k45 45 x6 x5.heap.size (fun _ => True) v6 q) := ⟨Kd.R_lower ho (by simp only [World.size_alloc]; omega)⟩; have B6 : Aside0 (Below x5.heap.size x5 x6) := ⟨below_then (below_alloc (Below.refl _ _) _) (by simp only [World.size_alloc]; omega) hb⟩; have K8e := ak (blk_below (blk_new x5 (.cells #[.string (takeE a1 t0 s0).1.f0, .string (takeE a1 t0 s0).1.f1] 45)) hb); clear ho hb hm0 hm1 hm2 hm3; obtain ⟨A6, c6, e6⟩ := Kd.R_slice O6.out; subst e6; have K6 := ak (blk_below SG.out.blk B6.out); have hm3 := (blk_cell K6.out 3).trans rfl; have hf3 := blk_frozen K6.out 3)
     | (go_at_call 78; have hs5 : x3.heap.size ≤ x5.heap.size := (by have := BO.out.size; omega); have h6s := B6.out.size; refine (settleE.calls x3.heap.size x4.heap.size a0_0 a0_1 (.slice At' (takeE a1 t0 s0).2.2.2.1.length ct') (.slice A6 q.length c6) (takeE a1 t0 s0).2.2.2.1 q k t2 s2 th x3 _ ⟨blk_put (cs := #[.int .i64 a0_0, .int .i64 a0_1, .slice At' (takeE a1 t0 s0).2.2.2.1.length ct', .slice As' (takeE a1 t0 s0).2.2.2.2.length cs']) K6.out 3 _ rfl, BO.out.size, row_ok (row_move (Kd.R_below SG.out.ht B6.out) (fun j hj => Below.heap_setCell _ _ _ j (fun e => Kd.R_ne SG.out.ht SG.out.blk (by decide) (by rw [hj]; exact congrArg some e.symm)))) (fun j hj e => by have h1 := Kd.R_lt SG.out.ht j hj; have h2 := Kd.R_base O6.out j e.symm; omega), row_ok (row_move (Kd.R_lower O6.out hs5) (fun j hj => Below.heap_setCell _ _ _ j (fun e => by have h2 := Kd.R_base O6.out j hj; have e2 : j = x4.heap.size := e; omega))) (fun j hj e => by have h1 := Kd.R_lt SG.out.ht j e.symm; have h2 := Kd.R_base O6.out j hj; omega)⟩ ((B5.out.trans (B6.out.mono hs5)).setCell (show x3.heap.size ≤ x4.heap.size from BO.out.size) _) (by simp only [World.setCell, Array.size_modify]; omega) A3.out).mono ?_; rintro e x7 ⟨v7, vt7, vs7, B1, rfl, hseg, hB1, ho, hl1, hl2, hb, hk⟩; have S7 := ak hseg; have B7 := ak hb; have h8l : x5.heap.size < x6.heap.size := blk_lt K8e.out; have K8f : Aside0 (x7.heap[x5.heap.size]? = some (.cells #[.string (takeE a1 t0 s0).1.f0, .string (takeE a1 t0 s0).1.f1] 45 (0, 0))) := ⟨(hk.2 x5.heap.size (by simp only [World.setCell, Array.size_modify]; omega) (by omega)).trans ((Below.heap_setCell _ _ _ _ (by show x5.heap.size ≠ x4.heap.size; omega)).trans K8e.out)⟩; clear hseg ho hb hk hl1 hl2 hm3 hf3 hB1; obtain ⟨A7t, c7t, e7⟩ := Kd.R_slice S7.out.ht; subst e7; obtain ⟨A7s, c7s, e7⟩ := Kd.R_slice S7.out.hs; subst e7; have hw1 := (blk_cell K8f.out 1).trans rfl; have h4l : b4 < x3.heap.size := blk_lt K4.out; have hn4 : b4 ≠ x4.heap.size := (by have := BO.out.size; omega); have hn5 : b4 ≠ x5.heap.size := (by omega); have K47 := ak ((B7.out.block b4 h4l).trans K4.out); have hu0 := (blk_cell K47.out 0).trans rfl; have hu1 := (blk_cell K47.out 1).trans rfl; have hu2 := (blk_cell K47.out 2).trans rfl; have hu3 := (blk_cell K47.out 3).trans rfl; have hv0 := blk_frozen K47.out 0; have hv1 := blk_frozen K47.out 1; have hv2 := blk_frozen K47.out 2; have hv3 := blk_frozen K47.out 3; have hy0 : x7.cell? ⟨x4.heap.size, 0, none⟩ = some (.int .i64 a0_0) := (blk_cell S7.out.blk 0).trans rfl; have hy1 : x7.cell? ⟨x4.heap.size, 1, none⟩ = some (.int .i64 a0_1) := (blk_cell S7.out.blk 1).trans rfl; have hy2 : x7.cell? ⟨x4.heap.size, 2, none⟩ = some (.slice A7t t2.length c7t) := (blk_cell S7.out.blk 2).trans rfl; have hy3 : x7.cell? ⟨x4.heap.size, 3, none⟩ = some (.slice A7s s2.length c7s) := (blk_cell S7.out.blk 3).trans rfl))
  go_region
  all_goals
   go_wp2
   have h3w : w.heap.size ≤ x3.heap.size := HB.out.size
   have h4w := G4.out
   have h4x : b4 < x3.heap.size := blk_lt K4.out
   have hfar : ∀ j, j ≠ b4 → ((((x7.setCell ⟨b4, 0, none⟩ (.int .i64 a0_0)).setCell ⟨b4, 1, none⟩ (.int .i64 a0_1)).setCell ⟨b4, 2, none⟩ (.slice A7t t2.length c7t)).setCell ⟨b4, 3, none⟩ (.slice A7s s2.length c7s)).heap[j]? = x7.heap[j]? := fun j hj => by rw [Below.heap_setCell _ _ _ j (by show j ≠ b4; exact hj), Below.heap_setCell _ _ _ j (by show j ≠ b4; exact hj), Below.heap_setCell _ _ _ j (by show j ≠ b4; exact hj), Below.heap_setCell _ _ _ j (by show j ≠ b4; exact hj)]
   refine bodyPost_ret (results_ctt rfl _ _ b4 28 #[.int .i64 a0_0, .int .i64 a0_1, .slice A7t t2.length c7t, .slice A7s s2.length c7s] (0, 0) _ rfl (by refine blk_drew ?_; refine blk_put (cs := #[.int .i64 a0_0, .int .i64 a0_1, .slice A7t t2.length c7t, .slice none 0 0]) ?_ 3 _ rfl; refine blk_put (cs := #[.int .i64 a0_0, .int .i64 a0_1, .slice none 0 0, .slice none 0 0]) ?_ 2 _ rfl; refine blk_put (cs := #[.int .i64 a0_0, .int .i64 0, .slice none 0 0, .slice none 0 0]) ?_ 1 _ rfl; exact blk_put (cs := #[.int .i64 0, .int .i64 0, .slice none 0 0, .slice none 0 0]) K47.out 0 _ rfl) Try.underlying28 rfl (by kernel_rfl)) rfl ?_
   refine ⟨.slice A7t t2.length c7t, .slice A7s s2.length c7s, rfl, Kd.R_drew (row_ok (row_move (Kd.R_lower S7.out.ht (by omega)) (fun j hj => hfar j (by have := Kd.R_base S7.out.ht j hj; omega))) (fun j hj => S7.out.ht.1 j hj)), Kd.R_drew (row_ok (row_move (Kd.R_lower S7.out.hs (by omega)) (fun j hj => hfar j (by have := Kd.R_base S7.out.hs j hj; omega))) (fun j hj => S7.out.hs.1 j hj)), below_drew (((((below_then HB.out h3w (B7.out.mono (Nat.le_refl _))).setCell (show w.heap.size ≤ b4 by omega) _).setCell (show w.heap.size ≤ b4 by omega) _).setCell (show w.heap.size ≤ b4 by omega) _).setCell (show w.heap.size ≤ b4 by omega) _)⟩
 ·rw [if_neg hc, Option.some.injEq] at h
  simp only [Prod.mk.injEq] at h
  obtain ⟨rfl, rfl, rfl, rfl, rfl, rfl⟩ := h
  have HTK : Aside0 ((takeE a1 t0 s0).2.2.1 = false) := ⟨by simpa using hc⟩
  clear hc
  go_enter Try.func53, Try.ntmps53
  go_wp2_with (first
     | (refine bE 2 #[.int .i64 a0_0, .int .i64 a0_1, .slice A0_2 l0_2.length c0_2, .slice A0_3 l0_3.length c0_3] 28 ?_; intro b2 hb2 x1 kb hb; have HB := ak hb; have K2 := ak kb; clear hb kb hb2)
     | (refine bE 4 #[.int .i64 0, .int .i64 0, .slice none 0 0, .slice none 0 0] 28 ?_; intro b4 hb4 x3 kb hb; have G4 : Aside0 (w.heap.size ≤ b4) := ⟨by rw [hb4]; exact HB.out.size⟩; have n0_ := ak (below_then HB.out HB.out.size hb); have n1_ := ak (blk_below K2.out hb); clear HB K2; have HB := n0_; have K2 := n1_; have K4 := ak kb; clear hb kb hb4 n0_ n1_; have hz0 : x3.cell? ⟨b2, 0, none⟩ = some (.int .i64 a0_0) := (blk_cell K2.out 0).trans rfl; have hz1 : x3.cell? ⟨b2, 1, none⟩ = some (.int .i64 a0_1) := (blk_cell K2.out 1).trans rfl; have hz2 : x3.cell? ⟨b2, 2, none⟩ = some (.slice A0_2 l0_2.length c0_2) := (blk_cell K2.out 2).trans rfl; have hz3 : x3.cell? ⟨b2, 3, none⟩ = some (.slice A0_3 l0_3.length c0_3) := (blk_cell K2.out 3).trans rfl)
     | (go_at_call 45; (with_reducible refine (impl_Segmented_own.calls a0_0 a0_1 A0_2 c0_2 l0_2 A0_3 c0_3 l0_3 a0_0 a0_1 t0 s0 x3 (Kd.C_below HR2.out HB.out) HC2.out (Kd.C_below HR3.out HB.out) HC3.out A1.out).mono ?_); rintro e x4 ⟨vt, vs, rfl, ho1, ho2, hb⟩; have HT := ak ho1; have HS := ak ho2; have BO := ak hb; clear ho1 ho2 hb hz0 hz1 hz2 hz3; obtain ⟨At, ct, et⟩ := Kd.R_slice HT.out; subst et; obtain ⟨As, cs, es⟩ := Kd.R_slice HS.out; subst es)
     | (go_at_call 46; refine (take.calls x3.heap.size x4.heap.size a0_0 a0_1 (.slice At t0.length ct) (.slice As s0.length cs) t0 s0 a1 x3 _ ⟨blk_new x4 _, BO.out.size, Kd.R_alloc HT.out _, Kd.R_alloc HS.out _⟩ (BO.out.alloc BO.out.size _) (by have := BO.out.size; simp only [World.size_alloc]; omega)).mono ?_; rintro e x5 ⟨rfl, ⟨vt', vs', hseg⟩, hb, hk⟩; rw [HTK.out]; have SG := ak hseg; have B5 := ak hb; clear hseg hb hk; obtain ⟨At', ct', et⟩ := Kd.R_slice SG.out.ht; subst et; obtain ⟨As', cs', es⟩ := Kd.R_slice SG.out.hs; subst es; have hg5 : x4.heap.size < x5.heap.size := blk_lt SG.out.blk; have hm0 : x5.cell? ⟨x4.heap.size, 0, none⟩ = some (.int .i64 a0_0) := (blk_cell SG.out.blk 0).trans rfl; have hm1 : x5.cell? ⟨x4.heap.size, 1, none⟩ = some (.int .i64 a0_1) := (blk_cell SG.out.blk 1).trans rfl; have hm2 : x5.cell? ⟨x4.heap.size, 2, none⟩ = some (.slice At' (takeE a1 t0 s0).2.2.2.1.length ct') := (blk_cell SG.out.blk 2).trans rfl; have hm3 : x5.cell? ⟨x4.heap.size, 3, none⟩ = some (.slice As' (takeE a1 t0 s0).2.2.2.2.length cs') := (blk_cell SG.out.blk 3).trans rfl; have h4l : b4 < x3.heap.size := blk_lt K4.out; have h4m : b4 < x5.heap.size := (by have := BO.out.size; omega); have hn4 : b4 ≠ x4.heap.size := (by have := BO.out.size; omega); have K45 := ak ((B5.out.block b4 h4l).trans K4.out); have hu0 := (blk_cell K45.out 0).trans rfl; have hu1 := (blk_cell K45.out 1).trans rfl; have hu2 := (blk_cell K45.out 2).trans rfl; have hu3 := (blk_cell K45.out 3).trans rfl; have hv0 := blk_frozen K45.out 0; have hv1 := blk_frozen K45.out 1; have hv2 := blk_frozen K45.out 2; have hv3 := blk_frozen K45.out 3))
  have h3w : w.heap.size ≤ x3.heap.size := HB.out.size
  have h4w := G4.out
  have h4x : b4 < x3.heap.size := blk_lt K4.out
  have hfar : ∀ j, j ≠ b4 → ((((x5.setCell ⟨b4, 0, none⟩ (.int .i64 a0_0)).setCell ⟨b4, 1, none⟩ (.int .i64 a0_1)).setCell ⟨b4, 2, none⟩ (.slice At' (takeE a1 t0 s0).2.2.2.1.length ct')).setCell ⟨b4, 3, none⟩ (.slice As' (takeE a1 t0 s0).2.2.2.2.length cs')).heap[j]? = x5.heap[j]? := fun j hj => by rw [Below.heap_setCell _ _ _ j (by show j ≠ b4; exact hj), Below.heap_setCell _ _ _ j (by show j ≠ b4; exact hj), Below.heap_setCell _ _ _ j (by show j ≠ b4; exact hj), Below.heap_setCell _ _ _ j (by show j ≠ b4; exact hj)]
  refine bodyPost_ret (results_ctt rfl _ _ b4 28 #[.int .i64 a0_0, .int .i64 a0_1, .slice At' (takeE a1 t0 s0).2.2.2.1.length ct', .slice As' (takeE a1 t0 s0).2.2.2.2.length cs'] (0, 0) _ rfl (by refine blk_alloc ?_ _; refine blk_put (cs := #[.int .i64 a0_0, .int .i64 a0_1, .slice At' (takeE a1 t0 s0).2.2.2.1.length ct', .slice none 0 0]) ?_ 3 _ rfl; refine blk_put (cs := #[.int .i64 a0_0, .int .i64 a0_1, .slice none 0 0, .slice none 0 0]) ?_ 2 _ rfl; refine blk_put (cs := #[.int .i64 a0_0, .int .i64 0, .slice none 0 0, .slice none 0 0]) ?_ 1 _ rfl; exact blk_put (cs := #[.int .i64 0, .int .i64 0, .slice none 0 0, .slice none 0 0]) K45.out 0 _ rfl) Try.underlying28 rfl (by kernel_rfl)) rfl ?_
  refine ⟨.slice At' (takeE a1 t0 s0).2.2.2.1.length ct', .slice As' (takeE a1 t0 s0).2.2.2.2.length cs', rfl, Kd.R_alloc (row_ok (row_move (Kd.R_lower SG.out.ht (by omega)) (fun j hj => hfar j (by have := Kd.R_base SG.out.ht j hj; omega))) (fun j hj => SG.out.ht.1 j hj)) _, Kd.R_alloc (row_ok (row_move (Kd.R_lower SG.out.hs (by omega)) (fun j hj => hfar j (by have := Kd.R_base SG.out.hs j hj; omega))) (fun j hj => SG.out.hs.1 j hj)) _, below_alloc (((((below_then HB.out h3w (B5.out.mono (Nat.le_refl _))).setCell (show w.heap.size ≤ b4 by omega) _).setCell (show w.heap.size ≤ b4 by omega) _).setCell (show w.heap.size ≤ b4 by omega) _).setCell (show w.heap.size ≤ b4 by omega) _) _⟩


/-! ### impl_GetEntry: function 31 -/
def impl_GetEntry.f (k : Nat) (a0_0 : Int) (a0_1 : Int) (l0_2 : List (S45)) (l0_3 : List (S45)) (a1 : ByteArray) : Option (Int × Int × (List (S45)) × (List (S45)) × ByteArray × Bool) := (impl_GoodSegmented.f k a0_0 a0_1 l0_2 l0_3).bind fun t389 => (if t389 = true then ((impl_Segmented_get.f k a0_0 a0_1 l0_2 l0_3 a1).bind fun bt390 => ((impl_Segmented_own.f bt390.1 bt390.2.1 bt390.2.2.1 bt390.2.2.2.1).bind fun bt401 => (some (bt401.1, bt401.2.1, bt401.2.2.1, bt401.2.2.2, bt390.2.2.2.2.1, bt390.2.2.2.2.2)))) else (some (0, 0, ([] : List (S45)), ([] : List (S45)), (⟨#[]⟩ : ByteArray), false)))
theorem impl_GetEntry.mono : ∀ a0 a1 a2 a3 a4 k, LeO (impl_GetEntry.f k a0 a1 a2 a3 a4) (impl_GetEntry.f (k + 1) a0 a1 a2 a3 a4) := by
 intro a0 a1 a2 a3 a4 k
 unfold impl_GetEntry.f
 repeat' first
   | (with_reducible exact impl_GoodSegmented.mono _ _ _ _ _)
   | (with_reducible exact impl_Segmented_get.mono _ _ _ _ _ _)
   | (with_reducible exact LeO.refl _)
   | (with_reducible exact LeO.none _)
   | (with_reducible refine LeO.ite ?_ ?_)
   | (with_reducible refine LeO.bind ?_ (fun _ => ?_))
   | exact impl_GoodSegmented.mono _ _ _ _ _
   | exact impl_Segmented_get.mono _ _ _ _ _ _
   | exact LeO.none _
   | refine LeO.ite ?_ ?_
   | refine LeO.bind ?_ (fun _ => ?_)
set_option maxHeartbeats 8000000 in
set_option maxRecDepth 100000 in
theorem impl_GetEntry.calls (k : Nat) (a0_0 : Int) (a0_1 : Int) (A0_2 : Option Addr) (c0_2 : Nat) (l0_2 : List (S45)) (A0_3 : Option Addr) (c0_3 : Nat) (l0_3 : List (S45)) (a1 : ByteArray) (r1 : Int) (r2 : Int) (r3 : List (S45)) (r4 : List (S45)) (r5 : ByteArray) (r6 : Bool) (w : World) (hr0_2 : Kd.C k45 w A0_2 l0_2.length l0_2) (hc0_2 : l0_2.length ≤ c0_2) (hr0_3 : Kd.C k45 w A0_3 l0_3.length l0_3) (hc0_3 : l0_3.length ≤ c0_3) (h : impl_GetEntry.f k a0_0 a0_1 l0_2 l0_3 a1 = some (r1, r2, r3, r4, r5, r6)) :
  Calls Try.prog 31 #[.agg #[.int .i64 a0_0, .int .i64 a0_1, .slice A0_2 l0_2.length c0_2, .slice A0_3 l0_3.length c0_3], .string a1] w fun e w' => ∃ v2_ v3_ : Value, e = .returned (.tuple #[.agg #[.int .i64 r1, .int .i64 r2, v2_, v3_], .string r5, .bool r6]) ∧ Kd.R k45 45 w' w.heap.size (fun k_ => some k_ ≠ (v3_ : Value).ownBlock) v2_ r3 ∧ Kd.R k45 45 w' w.heap.size (fun k_ => some k_ ≠ (v2_ : Value).ownBlock) v3_ r4 ∧ Below w.heap.size w w' := by
 have hu28 := Try.underlying28
 have HR0_2 := ak hr0_2
 have HC0_2 := ak hc0_2
 clear hr0_2 hc0_2
 have HR0_3 := ak hr0_3
 have HC0_3 := ak hc0_3
 clear hr0_3 hc0_3
 have HB := ak (Below.refl w.heap.size w)
 have H : ((impl_GoodSegmented.f k a0_0 a0_1 l0_2 l0_3).bind fun t389 => (if t389 = true then ((impl_Segmented_get.f k a0_0 a0_1 l0_2 l0_3 a1).bind fun bt390 => ((impl_Segmented_own.f bt390.1 bt390.2.1 bt390.2.2.1 bt390.2.2.2.1).bind fun bt401 => (some (bt401.1, bt401.2.1, bt401.2.2.1, bt401.2.2.2, bt390.2.2.2.2.1, bt390.2.2.2.2.2)))) else (some (0, 0, ([] : List (S45)), ([] : List (S45)), (⟨#[]⟩ : ByteArray), false)))) = some (r1, r2, r3, r4, r5, r6) := h
 clear h
 replace H := Option.bind_eq_some_iff.mp H
 obtain ⟨t389, A30, H⟩ := H
 try dsimp only at H
 have A3 := ak A30
 clear A30
 by_cases c4 : t389 = true
 ·subst c4
  have H1 : ((impl_Segmented_get.f k a0_0 a0_1 l0_2 l0_3 a1).bind fun bt390 => ((impl_Segmented_own.f bt390.1 bt390.2.1 bt390.2.2.1 bt390.2.2.2.1).bind fun bt401 => (some (bt401.1, bt401.2.1, bt401.2.2.1, bt401.2.2.2, bt390.2.2.2.2.1, bt390.2.2.2.2.2)))) = some (r1, r2, r3, r4, r5, r6) := by rw [if_pos rfl] at H; exact H
  clear H
  have H := H1
  clear H1
  replace H := Option.bind_eq_some_iff.mp H
  obtain ⟨⟨t390, t391, t392, t395, t398, t399⟩, A50, H⟩ := H
  try dsimp only at H
  have A5 := ak A50
  clear A50
  replace H := Option.bind_eq_some_iff.mp H
  obtain ⟨⟨t401, t402, t403, t406⟩, A60, H⟩ := H
  try dsimp only at H
  have A6 := ak A60
  clear A60
  simp only [Option.some.injEq, Prod.mk.injEq] at H
  obtain ⟨rfl, rfl, rfl, rfl, rfl, rfl⟩ := H
  go_enter Try.func31, Try.ntmps31
  go_wp2_with (first | (refine bE 2 #[.int .i64 a0_0, .int .i64 a0_1, .slice A0_2 l0_2.length c0_2, .slice A0_3 l0_3.length c0_3] 28 ?_; intro gb387 hg w7 hbox hb; have BK387 := ak hbox; have GW387 := gs hg (bl HB.out); have GE387 := gs hg (bl HB.out); replace HB := ak (below_step (bl HB.out) hb); clear hb hbox hg) | (refine bE 4 #[.int .i64 0, .int .i64 0, .slice none 0 0, .slice none 0 0] 28 ?_; intro gb388 hg w8 hbox hb; have BK388 := ak hbox; have GW388 := gs hg (bl1 HB.out GE387.out); have GE388 := gs hg (bl1 HB.out GE387.out); replace HB := ak (below_step (bl1 HB.out GE387.out) hb); have NB387_388 := nl hg BK387.out; have NB388_387 := ng hg BK387.out; replace BK387 := ak (blk_below (bk BK387.out) hb); clear hb hbox hg; have hnb9 := NB387_388.out; have hnc9 := NB388_387.out; obtain ⟨hcz10_0, hcz10_1, hcz10_2, hcz10_3, hfz10_0, hfz10_1, hfz10_2, hfz10_3⟩ := b4 BK387.out) | (refine gL 22 Try.func22 (some 11) #[.agg #[.int .i64 a0_0, .int .i64 a0_1, .slice A0_2 l0_2.length c0_2, .slice A0_3 l0_3.length c0_3]] ?_; (with_reducible refine (impl_GoodSegmented.calls k a0_0 a0_1 _ _ l0_2 _ _ l0_3 true _ ?side1 ?side2 ?side3 ?side4 A3.out).mono ?_); (case side1 => exact kc (Kd.C_below HR0_2.out HB.out)); (case side2 => exact HC0_2.out); (case side3 => exact kc (Kd.C_below HR0_3.out HB.out)); (case side4 => exact HC0_3.out); rintro e w11 ⟨rfl, hb⟩; refine ⟨_, rfl, ?_⟩; replace BK387 := ak (blk_below (bk BK387.out) hb); replace BK388 := ak (blk_below (bk BK388.out) hb); replace HB := ak (below_step (bl2 HB.out GE387.out GE388.out) hb); clear hb; obtain ⟨hcz12_0, hcz12_1, hcz12_2, hcz12_3, hfz12_0, hfz12_1, hfz12_2, hfz12_3⟩ := b4 BK387.out) | (refine gL 53 Try.func53 (some 17) #[.agg #[.int .i64 a0_0, .int .i64 a0_1, .slice A0_2 l0_2.length c0_2, .slice A0_3 l0_3.length c0_3], .string a1] ?_; (with_reducible refine (impl_Segmented_get.calls k a0_0 a0_1 _ _ l0_2 _ _ l0_3 a1 t390 t391 t392 t395 t398 t399 _ ?side1 ?side2 ?side3 ?side4 A5.out).mono ?_); (case side1 => exact kc (Kd.C_below HR0_2.out HB.out)); (case side2 => exact HC0_2.out); (case side3 => exact kc (Kd.C_below HR0_3.out HB.out)); (case side4 => exact HC0_3.out); rintro e w13 ⟨v393, v396, rfl, ho0, ho1, hb⟩; refine ⟨_, rfl, ?_⟩; have HO394 := ak (Kd.R_lower ho0 (below_size (bl2 HB.out GE387.out GE388.out))); have HO397 := ak (Kd.R_lower ho1 (below_size (bl2 HB.out GE387.out GE388.out))); replace BK387 := ak (blk_below (bk BK387.out) hb); replace BK388 := ak (blk_below (bk BK388.out) hb); replace HB := ak (below_step (bl2 HB.out GE387.out GE388.out) hb); clear hb ho0 ho1) | (refine bE 7 #[.int .i64 0, .int .i64 0, .slice none 0 0, .slice none 0 0] 28 ?_; intro gb400 hg w14 hbox hb; replace HO394 := ak (Kd.R_below (kr HO394.out) hb); replace HO397 := ak (Kd.R_below (kr HO397.out) hb); have BK400 := ak hbox; have GW400 := gs hg (bl2 HB.out GE387.out GE388.out); have GE400 := gs hg (bl2 HB.out GE387.out GE388.out); replace HB := ak (below_step (bl2 HB.out GE387.out GE388.out) hb); have NB387_400 := nl hg BK387.out; have NB400_387 := ng hg BK387.out; replace BK387 := ak (blk_below (bk BK387.out) hb); have NB388_400 := nl hg BK388.out; have NB400_388 := ng hg BK388.out; replace BK388 := ak (blk_below (bk BK388.out) hb); clear hb hbox hg; have hnb15 := NB400_387.out; have hnc15 := NB387_400.out; have hnb16 := NB400_388.out; have hnc16 := NB388_400.out; obtain ⟨hcz17_0, hcz17_1, hcz17_2, hcz17_3, hfz17_0, hfz17_1, hfz17_2, hfz17_3⟩ := b4 BK400.out; obtain ⟨Ao18, co18, eo18⟩ := Kd.R_slice HO394.out; subst eo18; obtain ⟨Ao19, co19, eo19⟩ := Kd.R_slice HO397.out; subst eo19) | (refine gL 45 Try.func45 (some 22) #[.agg #[.int .i64 t390, .int .i64 t391, .slice Ao18 t392.length co18, .slice Ao19 t395.length co19]] ?_; (with_reducible refine (impl_Segmented_own.calls t390 t391 _ _ t392 _ _ t395 t401 t402 t403 t406 _ ?side1 ?side2 ?side3 ?side4 A6.out).mono ?_); (case side1 => refine (Kd.R_reads' (e := 45) (base := w.heap.size) (ok := fun k_ => some k_ ≠ (.slice Ao19 t395.length co19 : Value).ownBlock) (n := t392.length) (c := co18) ?_).2.2; exact (by (with_reducible repeat (first | apply Kd.R_alloc | apply Kd.R_drewN | apply Kd.R_drew)); exact (Kd.R_mono (Kd.R_far (p := ⟨gb400, 3, none⟩) (Kd.R_far (p := ⟨gb400, 2, none⟩) (Kd.R_far (p := ⟨gb400, 1, none⟩) (Kd.R_far (p := ⟨gb400, 0, none⟩) (Kd.R_types HO394.out BK400.out (by decide)) (fun _ hk => hk.2) (.int .i64 t390)) (fun _ hk => hk.2) (.int .i64 t391)) (fun _ hk => hk.2) (.slice Ao18 t392.length co18)) (fun _ hk => hk.2) (.slice Ao19 t395.length co19)) (fun _ h_ => h_.1)))); (case side2 => exact (Kd.R_reads' HO394.out).2.1); (case side3 => refine (Kd.R_reads' (e := 45) (base := w.heap.size) (ok := fun k_ => some k_ ≠ (.slice Ao18 t392.length co18 : Value).ownBlock) (n := t395.length) (c := co19) ?_).2.2; exact (by (with_reducible repeat (first | apply Kd.R_alloc | apply Kd.R_drewN | apply Kd.R_drew)); exact (Kd.R_mono (Kd.R_far (p := ⟨gb400, 3, none⟩) (Kd.R_far (p := ⟨gb400, 2, none⟩) (Kd.R_far (p := ⟨gb400, 1, none⟩) (Kd.R_far (p := ⟨gb400, 0, none⟩) (Kd.R_types HO397.out BK400.out (by decide)) (fun _ hk => hk.2) (.int .i64 t390)) (fun _ hk => hk.2) (.int .i64 t391)) (fun _ hk => hk.2) (.slice Ao18 t392.length co18)) (fun _ hk => hk.2) (.slice Ao19 t395.length co19)) (fun _ h_ => h_.1)))); (case side4 => exact (Kd.R_reads' HO397.out).2.1); rintro e w20 ⟨v404, v407, rfl, ho0, ho1, hb⟩; refine ⟨_, rfl, ?_⟩; have HO405 := ak (Kd.R_lower (Kd.R_new' (Kd.R_new' ho0 (Kd.R_lt (by (with_reducible repeat (first | apply Kd.R_alloc | apply Kd.R_drewN | apply Kd.R_drew)); exact (Kd.R_mono (Kd.R_far (p := ⟨gb400, 3, none⟩) (Kd.R_far (p := ⟨gb400, 2, none⟩) (Kd.R_far (p := ⟨gb400, 1, none⟩) (Kd.R_far (p := ⟨gb400, 0, none⟩) (Kd.R_types HO394.out BK400.out (by decide)) (fun _ hk => hk.2) (.int .i64 t390)) (fun _ hk => hk.2) (.int .i64 t391)) (fun _ hk => hk.2) (.slice Ao18 t392.length co18)) (fun _ hk => hk.2) (.slice Ao19 t395.length co19)) (fun _ h_ => h_.1))))) (Kd.R_lt (by (with_reducible repeat (first | apply Kd.R_alloc | apply Kd.R_drewN | apply Kd.R_drew)); exact (Kd.R_mono (Kd.R_far (p := ⟨gb400, 3, none⟩) (Kd.R_far (p := ⟨gb400, 2, none⟩) (Kd.R_far (p := ⟨gb400, 1, none⟩) (Kd.R_far (p := ⟨gb400, 0, none⟩) (Kd.R_types HO397.out BK400.out (by decide)) (fun _ hk => hk.2) (.int .i64 t390)) (fun _ hk => hk.2) (.int .i64 t391)) (fun _ hk => hk.2) (.slice Ao18 t392.length co18)) (fun _ hk => hk.2) (.slice Ao19 t395.length co19)) (fun _ h_ => h_.1))))) (below_size (bl3 HB.out GE387.out GE388.out GE400.out))); have HO408 := ak (Kd.R_lower (Kd.R_new' (Kd.R_new' ho1 (Kd.R_lt (by (with_reducible repeat (first | apply Kd.R_alloc | apply Kd.R_drewN | apply Kd.R_drew)); exact (Kd.R_mono (Kd.R_far (p := ⟨gb400, 3, none⟩) (Kd.R_far (p := ⟨gb400, 2, none⟩) (Kd.R_far (p := ⟨gb400, 1, none⟩) (Kd.R_far (p := ⟨gb400, 0, none⟩) (Kd.R_types HO394.out BK400.out (by decide)) (fun _ hk => hk.2) (.int .i64 t390)) (fun _ hk => hk.2) (.int .i64 t391)) (fun _ hk => hk.2) (.slice Ao18 t392.length co18)) (fun _ hk => hk.2) (.slice Ao19 t395.length co19)) (fun _ h_ => h_.1))))) (Kd.R_lt (by (with_reducible repeat (first | apply Kd.R_alloc | apply Kd.R_drewN | apply Kd.R_drew)); exact (Kd.R_mono (Kd.R_far (p := ⟨gb400, 3, none⟩) (Kd.R_far (p := ⟨gb400, 2, none⟩) (Kd.R_far (p := ⟨gb400, 1, none⟩) (Kd.R_far (p := ⟨gb400, 0, none⟩) (Kd.R_types HO397.out BK400.out (by decide)) (fun _ hk => hk.2) (.int .i64 t390)) (fun _ hk => hk.2) (.int .i64 t391)) (fun _ hk => hk.2) (.slice Ao18 t392.length co18)) (fun _ hk => hk.2) (.slice Ao19 t395.length co19)) (fun _ h_ => h_.1))))) (below_size (bl3 HB.out GE387.out GE388.out GE400.out))); replace HO394 := ak (Kd.R_mono (Kd.R_told (Kd.R_told (Kd.R_old (by (with_reducible repeat (first | apply Kd.R_alloc | apply Kd.R_drewN | apply Kd.R_drew)); exact (Kd.R_mono (Kd.R_far (p := ⟨gb400, 3, none⟩) (Kd.R_far (p := ⟨gb400, 2, none⟩) (Kd.R_far (p := ⟨gb400, 1, none⟩) (Kd.R_far (p := ⟨gb400, 0, none⟩) (Kd.R_types HO394.out BK400.out (by decide)) (fun _ hk => hk.2) (.int .i64 t390)) (fun _ hk => hk.2) (.int .i64 t391)) (fun _ hk => hk.2) (.slice Ao18 t392.length co18)) (fun _ hk => hk.2) (.slice Ao19 t395.length co19)) (fun _ h_ => h_.1))) hb) (Kd.R_base ho0)) (Kd.R_base ho1)) (fun _ h_ => h_.1)); replace HO397 := ak (Kd.R_mono (Kd.R_told (Kd.R_told (Kd.R_old (by (with_reducible repeat (first | apply Kd.R_alloc | apply Kd.R_drewN | apply Kd.R_drew)); exact (Kd.R_mono (Kd.R_far (p := ⟨gb400, 3, none⟩) (Kd.R_far (p := ⟨gb400, 2, none⟩) (Kd.R_far (p := ⟨gb400, 1, none⟩) (Kd.R_far (p := ⟨gb400, 0, none⟩) (Kd.R_types HO397.out BK400.out (by decide)) (fun _ hk => hk.2) (.int .i64 t390)) (fun _ hk => hk.2) (.int .i64 t391)) (fun _ hk => hk.2) (.slice Ao18 t392.length co18)) (fun _ hk => hk.2) (.slice Ao19 t395.length co19)) (fun _ h_ => h_.1))) hb) (Kd.R_base ho0)) (Kd.R_base ho1)) (fun _ h_ => h_.1)); replace BK387 := ak (blk_below (g := gb387) (o := .cells #[.int .i64 a0_0, .int .i64 a0_1, .slice A0_2 l0_2.length c0_2, .slice A0_3 l0_3.length c0_3] 28 (0, 0)) (bq BK387.out) hb); replace BK388 := ak (blk_below (g := gb388) (o := .cells #[.int .i64 0, .int .i64 0, .slice none 0 0, .slice none 0 0] 28 (0, 0)) (bq BK388.out) hb); replace BK400 := ak (blk_below (g := gb400) (o := .cells #[.int .i64 t390, .int .i64 t391, .slice Ao18 t392.length co18, .slice Ao19 t395.length co19] 28 (0, 0)) (bq BK400.out) hb); replace HB := ak (below_step (bl3 HB.out GE387.out GE388.out GE400.out) hb); clear hb ho0 ho1; obtain ⟨hcz21_0, hcz21_1, hcz21_2, hcz21_3, hfz21_0, hfz21_1, hfz21_2, hfz21_3⟩ := b4 BK388.out; obtain ⟨Ao22, co22, eo22⟩ := Kd.R_slice HO405.out; subst eo22; obtain ⟨Ao23, co23, eo23⟩ := Kd.R_slice HO408.out; subst eo23))
  refine bodyPost_ret (results_ctt rfl _ _ gb388 28 #[.int .i64 t401, .int .i64 t402, .slice Ao22 t403.length co22, .slice Ao23 t406.length co23] (0, 0) _ rfl (bq BK388.out) Try.underlying28 rfl (by kernel_rfl)) rfl ?_
  exact ⟨_, _, by first | rfl | (simp [errW_none, errW_some] <;> rfl) | (simp [*, errW_none, errW_some] <;> rfl), by (with_reducible repeat (first | apply Kd.R_alloc | apply Kd.R_drewN | apply Kd.R_drew)); exact Kd.R_mono (Kd.R_far (p := ⟨gb388, 3, none⟩) (Kd.R_far (p := ⟨gb388, 2, none⟩) (Kd.R_far (p := ⟨gb388, 1, none⟩) (Kd.R_far (p := ⟨gb388, 0, none⟩) (Kd.R_types HO405.out BK388.out (by decide)) (fun _ hk => hk.2) (.int .i64 t401)) (fun _ hk => hk.2) (.int .i64 t402)) (fun _ hk => hk.2) (.slice Ao22 t403.length co22)) (fun _ hk => hk.2) (.slice Ao23 t406.length co23)) (fun _ hk => hk.1.1.1), by (with_reducible repeat (first | apply Kd.R_alloc | apply Kd.R_drewN | apply Kd.R_drew)); exact Kd.R_mono (Kd.R_far (p := ⟨gb388, 3, none⟩) (Kd.R_far (p := ⟨gb388, 2, none⟩) (Kd.R_far (p := ⟨gb388, 1, none⟩) (Kd.R_far (p := ⟨gb388, 0, none⟩) (Kd.R_types HO408.out BK388.out (by decide)) (fun _ hk => hk.2) (.int .i64 t401)) (fun _ hk => hk.2) (.int .i64 t402)) (fun _ hk => hk.2) (.slice Ao22 t403.length co22)) (fun _ hk => hk.2) (.slice Ao23 t406.length co23)) (fun _ hk => hk.1.1.1), bl3 HB.out GE387.out GE388.out GE400.out⟩
 ·replace c4 := Bool.eq_false_iff.mpr c4
  subst c4
  have H1 : (some (0, 0, ([] : List (S45)), ([] : List (S45)), (⟨#[]⟩ : ByteArray), false)) = some (r1, r2, r3, r4, r5, r6) := by rw [if_neg (show ¬ (false = true) by decide)] at H; exact H
  clear H
  have H := H1
  clear H1
  simp only [Option.some.injEq, Prod.mk.injEq] at H
  obtain ⟨rfl, rfl, rfl, rfl, rfl, rfl⟩ := H
  go_enter Try.func31, Try.ntmps31
  go_wp2_with (first | (refine bE 2 #[.int .i64 a0_0, .int .i64 a0_1, .slice A0_2 l0_2.length c0_2, .slice A0_3 l0_3.length c0_3] 28 ?_; intro gb387 hg w24 hbox hb; have BK387 := ak hbox; have GW387 := gs hg (bl HB.out); have GE387 := gs hg (bl HB.out); replace HB := ak (below_step (bl HB.out) hb); clear hb hbox hg) | (refine bE 4 #[.int .i64 0, .int .i64 0, .slice none 0 0, .slice none 0 0] 28 ?_; intro gb388 hg w25 hbox hb; have BK388 := ak hbox; have GW388 := gs hg (bl1 HB.out GE387.out); have GE388 := gs hg (bl1 HB.out GE387.out); replace HB := ak (below_step (bl1 HB.out GE387.out) hb); have NB387_388 := nl hg BK387.out; have NB388_387 := ng hg BK387.out; replace BK387 := ak (blk_below (bk BK387.out) hb); clear hb hbox hg; have hnb26 := NB387_388.out; have hnc26 := NB388_387.out; obtain ⟨hcz27_0, hcz27_1, hcz27_2, hcz27_3, hfz27_0, hfz27_1, hfz27_2, hfz27_3⟩ := b4 BK387.out) | (refine gL 22 Try.func22 (some 11) #[.agg #[.int .i64 a0_0, .int .i64 a0_1, .slice A0_2 l0_2.length c0_2, .slice A0_3 l0_3.length c0_3]] ?_; (with_reducible refine (impl_GoodSegmented.calls k a0_0 a0_1 _ _ l0_2 _ _ l0_3 false _ ?side1 ?side2 ?side3 ?side4 A3.out).mono ?_); (case side1 => exact kc (Kd.C_below HR0_2.out HB.out)); (case side2 => exact HC0_2.out); (case side3 => exact kc (Kd.C_below HR0_3.out HB.out)); (case side4 => exact HC0_3.out); rintro e w28 ⟨rfl, hb⟩; refine ⟨_, rfl, ?_⟩; replace BK387 := ak (blk_below (bk BK387.out) hb); replace BK388 := ak (blk_below (bk BK388.out) hb); replace HB := ak (below_step (bl2 HB.out GE387.out GE388.out) hb); clear hb; obtain ⟨hcz29_0, hcz29_1, hcz29_2, hcz29_3, hfz29_0, hfz29_1, hfz29_2, hfz29_3⟩ := b4 BK388.out))
  refine bodyPost_ret (results_ctt rfl _ _ gb388 28 #[.int .i64 0, .int .i64 0, .slice none 0 0, .slice none 0 0] (0, 0) _ rfl (bq BK388.out) Try.underlying28 rfl (by kernel_rfl)) rfl ?_
  exact ⟨_, _, by first | rfl | (simp [errW_none, errW_some] <;> rfl) | (simp [*, errW_none, errW_some] <;> rfl), by first | exact Kd.R_nil _ _ _ _ _ | exact Kd.N_nil _ _ _ _ _ | exact Kd.V_nil _ _ _ _ _ | exact Kd.Q_nil _ _ _ _ _ | exact Kd.S_nil _ _ _ _ _, by first | exact Kd.R_nil _ _ _ _ _ | exact Kd.N_nil _ _ _ _ _ | exact Kd.V_nil _ _ _ _ _ | exact Kd.Q_nil _ _ _ _ _ | exact Kd.S_nil _ _ _ _ _, bl2 HB.out GE387.out GE388.out⟩

/-! ### spec_NewSegmented: function 54 -/
def spec_NewSegmented.f (a0 : Int) (a1 : Int) : Option (Int × Int × (List (S45)) × (List (S45)) × Bool) := (spec_l12Room.f a0).bind fun t410 => (if t410 = true then ((spec_l12Room.f a1).bind fun t411 => (if t411 = true then (some (a0, a1, ([] : List (S45)), ([] : List (S45)), true)) else (some (0, 0, ([] : List (S45)), ([] : List (S45)), false)))) else (some (0, 0, ([] : List (S45)), ([] : List (S45)), false)))
set_option maxHeartbeats 8000000 in
set_option maxRecDepth 100000 in
theorem spec_NewSegmented.calls (a0 : Int) (a1 : Int) (r1 : Int) (r2 : Int) (r3 : List (S45)) (r4 : List (S45)) (r5 : Bool) (w : World) (h : spec_NewSegmented.f a0 a1 = some (r1, r2, r3, r4, r5)) :
  Calls Try.prog 54 #[.int .i64 a0, .int .i64 a1] w fun e w' => ∃ v2_ v3_ : Value, e = .returned (.tuple #[.agg #[.int .i64 r1, .int .i64 r2, v2_, v3_], .bool r5]) ∧ Kd.R k45 45 w' w.heap.size (fun k_ => some k_ ≠ (v3_ : Value).ownBlock) v2_ r3 ∧ Kd.R k45 45 w' w.heap.size (fun k_ => some k_ ≠ (v2_ : Value).ownBlock) v3_ r4 ∧ Below w.heap.size w w' := by
 have hu28 := Try.underlying28
 have HB := ak (Below.refl w.heap.size w)
 have H : ((spec_l12Room.f a0).bind fun t410 => (if t410 = true then ((spec_l12Room.f a1).bind fun t411 => (if t411 = true then (some (a0, a1, ([] : List (S45)), ([] : List (S45)), true)) else (some (0, 0, ([] : List (S45)), ([] : List (S45)), false)))) else (some (0, 0, ([] : List (S45)), ([] : List (S45)), false)))) = some (r1, r2, r3, r4, r5) := h
 clear h
 replace H := Option.bind_eq_some_iff.mp H
 obtain ⟨t410, A30, H⟩ := H
 try dsimp only at H
 have A3 := ak A30
 clear A30
 by_cases c4 : t410 = true
 ·subst c4
  have H1 : ((spec_l12Room.f a1).bind fun t411 => (if t411 = true then (some (a0, a1, ([] : List (S45)), ([] : List (S45)), true)) else (some (0, 0, ([] : List (S45)), ([] : List (S45)), false)))) = some (r1, r2, r3, r4, r5) := by rw [if_pos rfl] at H; exact H
  clear H
  have H := H1
  clear H1
  replace H := Option.bind_eq_some_iff.mp H
  obtain ⟨t411, A50, H⟩ := H
  try dsimp only at H
  have A5 := ak A50
  clear A50
  by_cases c6 : t411 = true
  ·subst c6
   have H1 : (some (a0, a1, ([] : List (S45)), ([] : List (S45)), true)) = some (r1, r2, r3, r4, r5) := by rw [if_pos rfl] at H; exact H
   clear H
   have H := H1
   clear H1
   simp only [Option.some.injEq, Prod.mk.injEq] at H
   obtain ⟨rfl, rfl, rfl, rfl, rfl⟩ := H
   go_enter Try.func54, Try.ntmps54
   go_wp2_with (first | (refine bE 4 #[.int .i64 0, .int .i64 0, .slice none 0 0, .slice none 0 0] 28 ?_; intro gb409 hg w7 hbox hb; have BK409 := ak hbox; have GW409 := gs hg (bl HB.out); have GE409 := gs hg (bl HB.out); replace HB := ak (below_step (bl HB.out) hb); clear hb hbox hg) | (refine gL 67 Try.func67 (some 7) #[.int .i64 a0] ?_; (with_reducible refine (spec_l12Room.calls a0 true _ A3.out).mono ?_); rintro e w' ⟨rfl, ⟨nd, rfl⟩⟩; refine ⟨_, rfl, ?_⟩; (try (rw [drewN_self w7]; generalize hq_ : World.drewN w7 _ = w7; have n0_ : Aside0 (w7.heap[gb409]? = some (.cells #[.int .i64 0, .int .i64 0, .slice none 0 0, .slice none 0 0] 28 (0, 0))) := ⟨by rw [← hq_]; exact (bk BK409.out)⟩; have n1_ : Aside0 (Below w.heap.size w w7) := ⟨by rw [← hq_]; exact (bl1 HB.out GE409.out)⟩; clear BK409 HB hq_; have BK409 := n0_; have HB := n1_; clear n0_ n1_))) | (go_at_call 67; (with_reducible refine (spec_l12Room.calls a1 true _ A5.out).mono ?_); rintro e w' ⟨rfl, ⟨nd, rfl⟩⟩; (try (rw [drewN_self w7]; generalize hq_ : World.drewN w7 _ = w7; have n0_ : Aside0 (w7.heap[gb409]? = some (.cells #[.int .i64 0, .int .i64 0, .slice none 0 0, .slice none 0 0] 28 (0, 0))) := ⟨by rw [← hq_]; exact (bk BK409.out)⟩; have n1_ : Aside0 (Below w.heap.size w w7) := ⟨by rw [← hq_]; exact (bl1 HB.out GE409.out)⟩; clear BK409 HB hq_; have BK409 := n0_; have HB := n1_; clear n0_ n1_)); obtain ⟨hcz8_0, hcz8_1, hcz8_2, hcz8_3, hfz8_0, hfz8_1, hfz8_2, hfz8_3⟩ := b4 BK409.out))
   refine bodyPost_ret (results_ct rfl _ _ gb409 28 #[.int .i64 a0, .int .i64 a1, .slice none 0 0, .slice none 0 0] (0, 0) _ rfl (bq BK409.out) Try.underlying28 rfl (by kernel_rfl)) rfl ?_
   exact ⟨_, _, by first | rfl | (simp [errW_none, errW_some] <;> rfl) | (simp [*, errW_none, errW_some] <;> rfl), by first | exact Kd.R_nil _ _ _ _ _ | exact Kd.N_nil _ _ _ _ _ | exact Kd.V_nil _ _ _ _ _ | exact Kd.Q_nil _ _ _ _ _ | exact Kd.S_nil _ _ _ _ _, by first | exact Kd.R_nil _ _ _ _ _ | exact Kd.N_nil _ _ _ _ _ | exact Kd.V_nil _ _ _ _ _ | exact Kd.Q_nil _ _ _ _ _ | exact Kd.S_nil _ _ _ _ _, bl1 HB.out GE409.out⟩
  ·replace c6 := Bool.eq_false_iff.mpr c6
   subst c6
   have H1 : (some (0, 0, ([] : List (S45)), ([] : List (S45)), false)) = some (r1, r2, r3, r4, r5) := by rw [if_neg (show ¬ (false = true) by decide)] at H; exact H
   clear H
   have H := H1
   clear H1
   simp only [Option.some.injEq, Prod.mk.injEq] at H
   obtain ⟨rfl, rfl, rfl, rfl, rfl⟩ := H
   go_enter Try.func54, Try.ntmps54
   go_wp2_with (first | (refine bE 4 #[.int .i64 0, .int .i64 0, .slice none 0 0, .slice none 0 0] 28 ?_; intro gb409 hg w9 hbox hb; have BK409 := ak hbox; have GW409 := gs hg (bl HB.out); have GE409 := gs hg (bl HB.out); replace HB := ak (below_step (bl HB.out) hb); clear hb hbox hg) | (refine gL 67 Try.func67 (some 7) #[.int .i64 a0] ?_; (with_reducible refine (spec_l12Room.calls a0 true _ A3.out).mono ?_); rintro e w' ⟨rfl, ⟨nd, rfl⟩⟩; refine ⟨_, rfl, ?_⟩; (try (rw [drewN_self w9]; generalize hq_ : World.drewN w9 _ = w9; have n0_ : Aside0 (w9.heap[gb409]? = some (.cells #[.int .i64 0, .int .i64 0, .slice none 0 0, .slice none 0 0] 28 (0, 0))) := ⟨by rw [← hq_]; exact (bk BK409.out)⟩; have n1_ : Aside0 (Below w.heap.size w w9) := ⟨by rw [← hq_]; exact (bl1 HB.out GE409.out)⟩; clear BK409 HB hq_; have BK409 := n0_; have HB := n1_; clear n0_ n1_))) | (go_at_call 67; (with_reducible refine (spec_l12Room.calls a1 false _ A5.out).mono ?_); rintro e w' ⟨rfl, ⟨nd, rfl⟩⟩; (try (rw [drewN_self w9]; generalize hq_ : World.drewN w9 _ = w9; have n0_ : Aside0 (w9.heap[gb409]? = some (.cells #[.int .i64 0, .int .i64 0, .slice none 0 0, .slice none 0 0] 28 (0, 0))) := ⟨by rw [← hq_]; exact (bk BK409.out)⟩; have n1_ : Aside0 (Below w.heap.size w w9) := ⟨by rw [← hq_]; exact (bl1 HB.out GE409.out)⟩; clear BK409 HB hq_; have BK409 := n0_; have HB := n1_; clear n0_ n1_)); obtain ⟨hcz10_0, hcz10_1, hcz10_2, hcz10_3, hfz10_0, hfz10_1, hfz10_2, hfz10_3⟩ := b4 BK409.out))
   refine bodyPost_ret (results_ct rfl _ _ gb409 28 #[.int .i64 0, .int .i64 0, .slice none 0 0, .slice none 0 0] (0, 0) _ rfl (bq BK409.out) Try.underlying28 rfl (by kernel_rfl)) rfl ?_
   exact ⟨_, _, by first | rfl | (simp [errW_none, errW_some] <;> rfl) | (simp [*, errW_none, errW_some] <;> rfl), by first | exact Kd.R_nil _ _ _ _ _ | exact Kd.N_nil _ _ _ _ _ | exact Kd.V_nil _ _ _ _ _ | exact Kd.Q_nil _ _ _ _ _ | exact Kd.S_nil _ _ _ _ _, by first | exact Kd.R_nil _ _ _ _ _ | exact Kd.N_nil _ _ _ _ _ | exact Kd.V_nil _ _ _ _ _ | exact Kd.Q_nil _ _ _ _ _ | exact Kd.S_nil _ _ _ _ _, bl1 HB.out GE409.out⟩
 ·replace c4 := Bool.eq_false_iff.mpr c4
  subst c4
  have H1 : (some (0, 0, ([] : List (S45)), ([] : List (S45)), false)) = some (r1, r2, r3, r4, r5) := by rw [if_neg (show ¬ (false = true) by decide)] at H; exact H
  clear H
  have H := H1
  clear H1
  simp only [Option.some.injEq, Prod.mk.injEq] at H
  obtain ⟨rfl, rfl, rfl, rfl, rfl⟩ := H
  go_enter Try.func54, Try.ntmps54
  go_wp2_with (first | (refine bE 4 #[.int .i64 0, .int .i64 0, .slice none 0 0, .slice none 0 0] 28 ?_; intro gb409 hg w11 hbox hb; have BK409 := ak hbox; have GW409 := gs hg (bl HB.out); have GE409 := gs hg (bl HB.out); replace HB := ak (below_step (bl HB.out) hb); clear hb hbox hg) | (refine gL 67 Try.func67 (some 7) #[.int .i64 a0] ?_; (with_reducible refine (spec_l12Room.calls a0 false _ A3.out).mono ?_); rintro e w' ⟨rfl, ⟨nd, rfl⟩⟩; refine ⟨_, rfl, ?_⟩; (try (rw [drewN_self w11]; generalize hq_ : World.drewN w11 _ = w11; have n0_ : Aside0 (w11.heap[gb409]? = some (.cells #[.int .i64 0, .int .i64 0, .slice none 0 0, .slice none 0 0] 28 (0, 0))) := ⟨by rw [← hq_]; exact (bk BK409.out)⟩; have n1_ : Aside0 (Below w.heap.size w w11) := ⟨by rw [← hq_]; exact (bl1 HB.out GE409.out)⟩; clear BK409 HB hq_; have BK409 := n0_; have HB := n1_; clear n0_ n1_)); obtain ⟨hcz12_0, hcz12_1, hcz12_2, hcz12_3, hfz12_0, hfz12_1, hfz12_2, hfz12_3⟩ := b4 BK409.out))
  refine bodyPost_ret (results_ct rfl _ _ gb409 28 #[.int .i64 0, .int .i64 0, .slice none 0 0, .slice none 0 0] (0, 0) _ rfl (bq BK409.out) Try.underlying28 rfl (by kernel_rfl)) rfl ?_
  exact ⟨_, _, by first | rfl | (simp [errW_none, errW_some] <;> rfl) | (simp [*, errW_none, errW_some] <;> rfl), by first | exact Kd.R_nil _ _ _ _ _ | exact Kd.N_nil _ _ _ _ _ | exact Kd.V_nil _ _ _ _ _ | exact Kd.Q_nil _ _ _ _ _ | exact Kd.S_nil _ _ _ _ _, by first | exact Kd.R_nil _ _ _ _ _ | exact Kd.N_nil _ _ _ _ _ | exact Kd.V_nil _ _ _ _ _ | exact Kd.Q_nil _ _ _ _ _ | exact Kd.S_nil _ _ _ _ _, bl1 HB.out GE409.out⟩

end Go.Proofs.Ytfopmaiednikhaa.PFnParts
