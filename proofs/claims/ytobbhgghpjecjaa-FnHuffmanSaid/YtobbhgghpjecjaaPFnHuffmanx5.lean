-- written by a program of this session (wip/tool)
import Derived.Test.YtobbhgghpjecjaaPFnHuffmanx0
import Derived.Test.YtobbhgghpjecjaaPFnHuffmanx4
import Derived.Test.YtobbhgghpjecjaaOwn0
import Derived.Test.YtobbhgghpjecjaaOwnOpen
import Derived.WalkKit
import Derived.BigCall
import Derived.Lib.SliceRun
import Derived.Deep.RegionLaw
import Derived.Maps.OwnSet
import Derived.Maps.OwnOps
import Derived.Maps.Views
import Derived.Test.YtobbhgghpjecjaaWZeros
import Derived.Test.YtobbhgghpjecjaaWArr
namespace Go.Proofs.Ytobbhgghpjecjaa.PFnHuffman
open Go.RowKit Go.Proofs.YtobbhgghpjecjaaW.PrintWords Go.Proofs.YtobbhgghpjecjaaW.PrintLast Go.Proofs.YtobbhgghpjecjaaW.PrintMore Go.Shelf Go.Proofs.YtobbhgghpjecjaaOwn
attribute [local go_sem] max2_int min2_int max_two min_two max_three min_three max_four min_four   -- for this text's walks alone
set_option linter.unusedVariables false
set_option linter.unusedSimpArgs false

/-! ### spec_LengthsOf: function 32 -/
mutual
def spec_LengthsOf.l0 : Nat → List Int → List (S97) → List Int → Int → Int → Option (List Int × Bool)
  | 0, _, _, _, _, _ => none
  | k + 1, x4, x5, x21, x22, x23 => if x23 < x22 then (if 0 ≤ x23 then (if x23 < (x21.length : Int) then (if x5.length < 4398046511104 then (spec_LengthsOf.l0 k x4 (x5 ++ [(⟨rd x21 x23, (([x23] : List Int))⟩ : S97)]) x21 x22 (wrap64 (x23 + 1))) else (none)) else (none)) else (none)) else (spec_LengthsOf.l1 k x4 x5)
def spec_LengthsOf.l1 : Nat → List Int → List (S97) → Option (List Int × Bool)
  | 0, _, _ => none
  | k + 1, x4, x5 => if (x5.length : Int) > 1 then (spec_LengthsOf.l2 k x4 x5 0 0 ([] : List Int)) else (some (x4, true))
def spec_LengthsOf.l2 : Nat → List Int → List (S97) → Int → Int → List Int → Option (List Int × Bool)
  | 0, _, _, _, _, _ => none
  | k + 1, x4, x5, x9, x184000, x184001 => if x9 < 2 then (spec_LengthsOf.l3 k x4 x5 x9 0 x5 (x5.length : Int) 0 x184000 x184001) else (spec_LengthsOf.l4 k x4 x5 x184001 (x184001.length : Int) 0 x184000 x184001)
def spec_LengthsOf.l3 : Nat → List Int → List (S97) → Int → Int → List (S97) → Int → Int → Int → List Int → Option (List Int × Bool)
  | 0, _, _, _, _, _, _, _, _, _ => none
  | k + 1, x4, x5, x9, x10, x44, x45, x46, x184000, x184001 => if x46 < x45 then (if 0 ≤ x46 then (if x46 < (x44.length : Int) then (if 0 ≤ x10 then (if x10 < (x5.length : Int) then (if ((rd_T97 x44 x46).f0) < ((rd_T97 x5 x10).f0) then (spec_LengthsOf.l3 k x4 x5 x9 x46 x44 x45 (wrap64 (x46 + 1)) x184000 x184001) else (spec_LengthsOf.l3 k x4 x5 x9 x10 x44 x45 (wrap64 (x46 + 1)) x184000 x184001)) else (none)) else (none)) else (none)) else (none)) else (if 0 ≤ x10 then (if x10 < (x5.length : Int) then (if x184001.length + ((rd_T97 x5 x10).f1).length < 17592186044416 then ((some (([] : List (S97)) : List (S97))).bind fun y192 => (if x10 ≤ (x5.length : Int) then ((some (x5.take (x10 : Int).toNat : List (S97))).bind fun y195 => (if y192.length + y195.length < 4398046511104 then ((some (y192 ++ y195 : List (S97))).bind fun y200 => (if 0 ≤ (wrap64 (x10 + 1)) then (if (wrap64 (x10 + 1)) ≤ (x5.length : Int) then ((some (x5.drop ((wrap64 (x10 + 1)) : Int).toNat : List (S97))).bind fun y203 => (if y200.length + y203.length < 4398046511104 then (spec_LengthsOf.l2 k x4 (y200 ++ y203) (wrap64 (x9 + 1)) (wrap64 (x184000 + ((rd_T97 x5 x10).f0))) (x184001 ++ ((rd_T97 x5 x10).f1))) else (none))) else (none)) else (none))) else (none))) else (none))) else (none)) else (none)) else (none))
def spec_LengthsOf.l4 : Nat → List Int → List (S97) → List Int → Int → Int → Int → List Int → Option (List Int × Bool)
  | 0, _, _, _, _, _, _, _ => none
  | k + 1, x4, x5, x90, x91, x92, x184000, x184001 => if x92 < x91 then (if 0 ≤ x92 then (if x92 < (x90.length : Int) then (if 0 ≤ (rd x90 x92) then (if (rd x90 x92) < (x4.length : Int) then (spec_LengthsOf.l4 k (x4.set ((rd x90 x92) : Int).toNat (wrap64 ((rd x4 (rd x90 x92)) + 1))) x5 x90 x91 (wrap64 (x92 + 1)) x184000 x184001) else (none)) else (none)) else (none)) else (none)) else (if x5.length < 4398046511104 then (spec_LengthsOf.l1 k x4 (x5 ++ [(⟨x184000, x184001⟩ : S97)])) else (none))
end
def spec_LengthsOf.f (k : Nat) (l0 : List Int) : Option (List Int × Bool) := (spec_l15Weights.f k l0).bind fun t172 => (if t172 = true then (if 0 ≤ (l0.length : Int) then (if ((l0.length : Int) : Int).toNat ≤ 35184372088832 then (spec_LengthsOf.l0 k (List.replicate ((l0.length : Int) : Int).toNat 0) ([] : List (S97)) l0 (l0.length : Int) 0) else (none)) else (none)) else (some (([] : List Int), false)))
theorem spec_LengthsOf.mono_l : ∀ k, (∀ y0 y1 y2 y3 y4, LeO (spec_LengthsOf.l0 k y0 y1 y2 y3 y4) (spec_LengthsOf.l0 (k + 1) y0 y1 y2 y3 y4)) ∧ (∀ y0 y1, LeO (spec_LengthsOf.l1 k y0 y1) (spec_LengthsOf.l1 (k + 1) y0 y1)) ∧ (∀ y0 y1 y2 y3 y4, LeO (spec_LengthsOf.l2 k y0 y1 y2 y3 y4) (spec_LengthsOf.l2 (k + 1) y0 y1 y2 y3 y4)) ∧ (∀ y0 y1 y2 y3 y4 y5 y6 y7 y8, LeO (spec_LengthsOf.l3 k y0 y1 y2 y3 y4 y5 y6 y7 y8) (spec_LengthsOf.l3 (k + 1) y0 y1 y2 y3 y4 y5 y6 y7 y8)) ∧ (∀ y0 y1 y2 y3 y4 y5 y6, LeO (spec_LengthsOf.l4 k y0 y1 y2 y3 y4 y5 y6) (spec_LengthsOf.l4 (k + 1) y0 y1 y2 y3 y4 y5 y6))
  | 0 => ⟨fun _ _ _ _ _ r h => by simp [spec_LengthsOf.l0] at h, fun _ _ r h => by simp [spec_LengthsOf.l1] at h, fun _ _ _ _ _ r h => by simp [spec_LengthsOf.l2] at h, fun _ _ _ _ _ _ _ _ _ r h => by simp [spec_LengthsOf.l3] at h, fun _ _ _ _ _ _ _ r h => by simp [spec_LengthsOf.l4] at h⟩
  | k + 1 => by
    obtain ⟨ih0, ih1, ih2, ih3, ih4⟩ := spec_LengthsOf.mono_l k
    refine ⟨?_, ?_, ?_, ?_, ?_⟩
    · intro y0 y1 y2 y3 y4
      unfold spec_LengthsOf.l0
      repeat' first
      | (with_reducible exact ih0 _ _ _ _ _)
      | (with_reducible exact ih1 _ _)
      | (with_reducible exact ih2 _ _ _ _ _)
      | (with_reducible exact ih3 _ _ _ _ _ _ _ _ _)
      | (with_reducible exact ih4 _ _ _ _ _ _ _)
      | (with_reducible exact spec_l15Weights.mono _ _)
      | (with_reducible exact LeO.refl _)
      | (with_reducible exact LeO.none _)
      | (with_reducible refine LeO.ite ?_ ?_)
      | (with_reducible refine LeO.bind ?_ (fun _ => ?_))
      | exact ih0 _ _ _ _ _
      | exact ih1 _ _
      | exact ih2 _ _ _ _ _
      | exact ih3 _ _ _ _ _ _ _ _ _
      | exact ih4 _ _ _ _ _ _ _
      | exact spec_l15Weights.mono _ _
      | exact LeO.none _
      | refine LeO.ite ?_ ?_
      | refine LeO.bind ?_ (fun _ => ?_)
    · intro y0 y1
      unfold spec_LengthsOf.l1
      repeat' first
      | (with_reducible exact ih0 _ _ _ _ _)
      | (with_reducible exact ih1 _ _)
      | (with_reducible exact ih2 _ _ _ _ _)
      | (with_reducible exact ih3 _ _ _ _ _ _ _ _ _)
      | (with_reducible exact ih4 _ _ _ _ _ _ _)
      | (with_reducible exact spec_l15Weights.mono _ _)
      | (with_reducible exact LeO.refl _)
      | (with_reducible exact LeO.none _)
      | (with_reducible refine LeO.ite ?_ ?_)
      | (with_reducible refine LeO.bind ?_ (fun _ => ?_))
      | exact ih0 _ _ _ _ _
      | exact ih1 _ _
      | exact ih2 _ _ _ _ _
      | exact ih3 _ _ _ _ _ _ _ _ _
      | exact ih4 _ _ _ _ _ _ _
      | exact spec_l15Weights.mono _ _
      | exact LeO.none _
      | refine LeO.ite ?_ ?_
      | refine LeO.bind ?_ (fun _ => ?_)
    · intro y0 y1 y2 y3 y4
      unfold spec_LengthsOf.l2
      repeat' first
      | (with_reducible exact ih0 _ _ _ _ _)
      | (with_reducible exact ih1 _ _)
      | (with_reducible exact ih2 _ _ _ _ _)
      | (with_reducible exact ih3 _ _ _ _ _ _ _ _ _)
      | (with_reducible exact ih4 _ _ _ _ _ _ _)
      | (with_reducible exact spec_l15Weights.mono _ _)
      | (with_reducible exact LeO.refl _)
      | (with_reducible exact LeO.none _)
      | (with_reducible refine LeO.ite ?_ ?_)
      | (with_reducible refine LeO.bind ?_ (fun _ => ?_))
      | exact ih0 _ _ _ _ _
      | exact ih1 _ _
      | exact ih2 _ _ _ _ _
      | exact ih3 _ _ _ _ _ _ _ _ _
      | exact ih4 _ _ _ _ _ _ _
      | exact spec_l15Weights.mono _ _
      | exact LeO.none _
      | refine LeO.ite ?_ ?_
      | refine LeO.bind ?_ (fun _ => ?_)
    · intro y0 y1 y2 y3 y4 y5 y6 y7 y8
      unfold spec_LengthsOf.l3
      repeat' first
      | (with_reducible exact ih0 _ _ _ _ _)
      | (with_reducible exact ih1 _ _)
      | (with_reducible exact ih2 _ _ _ _ _)
      | (with_reducible exact ih3 _ _ _ _ _ _ _ _ _)
      | (with_reducible exact ih4 _ _ _ _ _ _ _)
      | (with_reducible exact spec_l15Weights.mono _ _)
      | (with_reducible exact LeO.refl _)
      | (with_reducible exact LeO.none _)
      | (with_reducible refine LeO.ite ?_ ?_)
      | (with_reducible refine LeO.bind ?_ (fun _ => ?_))
      | exact ih0 _ _ _ _ _
      | exact ih1 _ _
      | exact ih2 _ _ _ _ _
      | exact ih3 _ _ _ _ _ _ _ _ _
      | exact ih4 _ _ _ _ _ _ _
      | exact spec_l15Weights.mono _ _
      | exact LeO.none _
      | refine LeO.ite ?_ ?_
      | refine LeO.bind ?_ (fun _ => ?_)
    · intro y0 y1 y2 y3 y4 y5 y6
      unfold spec_LengthsOf.l4
      repeat' first
      | (with_reducible exact ih0 _ _ _ _ _)
      | (with_reducible exact ih1 _ _)
      | (with_reducible exact ih2 _ _ _ _ _)
      | (with_reducible exact ih3 _ _ _ _ _ _ _ _ _)
      | (with_reducible exact ih4 _ _ _ _ _ _ _)
      | (with_reducible exact spec_l15Weights.mono _ _)
      | (with_reducible exact LeO.refl _)
      | (with_reducible exact LeO.none _)
      | (with_reducible refine LeO.ite ?_ ?_)
      | (with_reducible refine LeO.bind ?_ (fun _ => ?_))
      | exact ih0 _ _ _ _ _
      | exact ih1 _ _
      | exact ih2 _ _ _ _ _
      | exact ih3 _ _ _ _ _ _ _ _ _
      | exact ih4 _ _ _ _ _ _ _
      | exact spec_l15Weights.mono _ _
      | exact LeO.none _
      | refine LeO.ite ?_ ?_
      | refine LeO.bind ?_ (fun _ => ?_)
theorem spec_LengthsOf.mono : ∀ a0 k, LeO (spec_LengthsOf.f k a0) (spec_LengthsOf.f (k + 1) a0) := by
  intro a0 k
  obtain ⟨ih0, ih1, ih2, ih3, ih4⟩ := spec_LengthsOf.mono_l k
  unfold spec_LengthsOf.f
  repeat' first
      | (with_reducible exact ih0 _ _ _ _ _)
      | (with_reducible exact ih1 _ _)
      | (with_reducible exact ih2 _ _ _ _ _)
      | (with_reducible exact ih3 _ _ _ _ _ _ _ _ _)
      | (with_reducible exact ih4 _ _ _ _ _ _ _)
      | (with_reducible exact spec_l15Weights.mono _ _)
      | (with_reducible exact LeO.refl _)
      | (with_reducible exact LeO.none _)
      | (with_reducible refine LeO.ite ?_ ?_)
      | (with_reducible refine LeO.bind ?_ (fun _ => ?_))
      | exact ih0 _ _ _ _ _
      | exact ih1 _ _
      | exact ih2 _ _ _ _ _
      | exact ih3 _ _ _ _ _ _ _ _ _
      | exact ih4 _ _ _ _ _ _ _
      | exact spec_l15Weights.mono _ _
      | exact LeO.none _
      | refine LeO.ite ?_ ?_
      | refine LeO.bind ?_ (fun _ => ?_)
def spec_LengthsOf.T19 : Bool × List (List Nat × List Nat) := (true, [([], []), ([0], [0]), ([], []), ([], []), ([2, 3], [2, 3]), ([4], [4]), ([5], [5]), ([1, 6], [1, 6])])
def spec_LengthsOf.B19 : List Nat := [0, 1, 0, 0, 12, 28, 60, 127]
theorem spec_LengthsOf.tab19 : rtab .any (opsOf Try.f32 19) = spec_LengthsOf.T19 := by kernel_rfl
theorem spec_LengthsOf.bits19 : waitsOk spec_LengthsOf.T19.2 spec_LengthsOf.B19 = true := by kernel_rfl
def spec_LengthsOf.T22 : Bool × List (List Nat × List Nat) := (true, [([], []), ([0], [0]), ([], []), ([], []), ([2, 3], [2, 3]), ([4], [4]), ([5], [5]), ([1, 6], [1, 6]), ([0, 1, 2, 3, 4, 5, 6, 7], []), ([8, 7, 0, 1, 2, 3, 4, 5, 6, 7], [7, 8])])
def spec_LengthsOf.B22 : List Nat := [0, 1, 0, 0, 12, 28, 60, 127, 255, 511]
theorem spec_LengthsOf.tab22 : rtab .any (opsOf Try.f32 22) = spec_LengthsOf.T22 := by kernel_rfl
theorem spec_LengthsOf.bits22 : waitsOk spec_LengthsOf.T22.2 spec_LengthsOf.B22 = true := by kernel_rfl
def spec_LengthsOf.T23 : Bool × List (List Nat × List Nat) := (true, [([], []), ([0], [0]), ([], []), ([], []), ([2, 3], [2, 3]), ([4], [4]), ([5], [5]), ([1, 6], [1, 6]), ([0, 1, 2, 3, 4, 5, 6, 7], []), ([8, 7, 7, 0, 1, 2, 3, 4, 5, 6, 7], [7, 8])])
def spec_LengthsOf.B23 : List Nat := [0, 1, 0, 0, 12, 28, 60, 127, 255, 511]
theorem spec_LengthsOf.tab23 : rtab .any (opsOf Try.f32 23) = spec_LengthsOf.T23 := by kernel_rfl
theorem spec_LengthsOf.bits23 : waitsOk spec_LengthsOf.T23.2 spec_LengthsOf.B23 = true := by kernel_rfl
def spec_LengthsOf.T24 : Bool × List (List Nat × List Nat) := (true, [([], []), ([], []), ([], []), ([1, 2], [1, 2]), ([0, 3], [0, 3]), ([], []), ([], []), ([6], [6]), ([5, 7], [5, 7]), ([4, 8, 4], [4, 8]), ([9, 9, 0, 1, 2, 3, 4, 5, 6, 7, 8, 9], [1, 5, 9])])
def spec_LengthsOf.B24 : List Nat := [0, 0, 0, 6, 15, 0, 0, 64, 224, 511, 1023]
theorem spec_LengthsOf.tab24 : rtab .any (opsOf Try.f32 24) = spec_LengthsOf.T24 := by kernel_rfl
theorem spec_LengthsOf.bits24 : waitsOk spec_LengthsOf.T24.2 spec_LengthsOf.B24 = true := by kernel_rfl
set_option maxHeartbeats 8000000 in
set_option maxRecDepth 100000 in
theorem spec_LengthsOf.calls (k : Nat) (A0 : Option Addr) (c0 : Nat) (l0 : List Int) (r1 : List Int) (r2 : Bool) (w : World) (hr0 : Kd.C (Kd.int .i64) w A0 l0.length l0) (hc0 : l0.length ≤ c0) (h : spec_LengthsOf.f k l0 = some (r1, r2)) :
    Calls Try.prog 32 #[.slice A0 l0.length c0] w fun e w' => ∃ v0_ : Value, e = .returned (.tuple #[v0_, .bool r2]) ∧ Kd.R (Kd.int .i64) 3 w' w.heap.size (fun _ => True) v0_ r1 ∧ Below w.heap.size w w' := by
  have hu97 := Try.underlying97
  have HR0 := Aside0.mk hr0
  have HC0 := Aside0.mk hc0
  clear hr0 hc0
  have HB := Aside0.mk (Below.refl w.heap.size w)
  have H : ((spec_l15Weights.f k l0).bind fun t172 => (if t172 = true then (if 0 ≤ (l0.length : Int) then (if ((l0.length : Int) : Int).toNat ≤ 35184372088832 then (spec_LengthsOf.l0 k (List.replicate ((l0.length : Int) : Int).toNat 0) ([] : List (S97)) l0 (l0.length : Int) 0) else (none)) else (none)) else (some (([] : List Int), false)))) = some (r1, r2) := h
  clear h
  replace H := Option.bind_eq_some_iff.mp H
  obtain ⟨t172, A20, H⟩ := H
  replace H : (if t172 = true then (if 0 ≤ (l0.length : Int) then (if ((l0.length : Int) : Int).toNat ≤ 35184372088832 then (spec_LengthsOf.l0 k (List.replicate ((l0.length : Int) : Int).toNat 0) ([] : List (S97)) l0 (l0.length : Int) 0) else (none)) else (none)) else (some (([] : List Int), false))) = some (r1, r2) := H
  have A2 := Aside0.mk A20
  clear A20
  by_cases c3 : t172 = true
  · subst c3
    have H1 : (if 0 ≤ (l0.length : Int) then (if ((l0.length : Int) : Int).toNat ≤ 35184372088832 then (spec_LengthsOf.l0 k (List.replicate ((l0.length : Int) : Int).toNat 0) ([] : List (S97)) l0 (l0.length : Int) 0) else (none)) else (none)) = some (r1, r2) := by rw [if_pos rfl] at H; exact H
    clear H
    have H := H1
    clear H1
    by_cases c4 : 0 ≤ (l0.length : Int)
    · rw [if_pos c4] at H
      have c4b0 := eq_true c4
      have c4b1 : decide (0 ≤ (l0.length : Int)) = true := decide_eq_true c4
      clear c4
      by_cases c5 : ((l0.length : Int) : Int).toNat ≤ 35184372088832
      · rw [if_pos c5] at H
        have c5b0 := eq_true c5
        have c5b1 : decide (((l0.length : Int) : Int).toNat ≤ 35184372088832) = true := decide_eq_true c5
        clear c5
        obtain ⟨y173, hy173⟩ : ∃ y_ : List Int, y_ = (List.replicate ((l0.length : Int) : Int).toNat 0) := ⟨_, rfl⟩
        replace H : (spec_LengthsOf.l0 k y173 ([] : List (S97)) l0 (l0.length : Int) 0) = some (r1, r2) := by first | (rw [hy173]; with_reducible exact H) | (have H2_ := (Option.bind_some _ _).symm.trans H; rw [hy173]; with_reducible exact H2_) | (have H2_ := (Option.bind_some _ _).symm.trans H; with_reducible exact H2_) | with_reducible exact H | (rw [hy173]; exact H) | exact H
        have Ny173 := Aside0.mk hy173
        clear hy173
        have H' := Aside0.mk H
        clear H
        go_enter Try.func32, Try.ntmps32
        go_wp2_with (first | ((with_reducible refine gate_callee (f := 77) rfl ?_); refine goesL_ (some 16) rfl rfl Try.func77 (by kernel_rfl) rfl #[.slice A0 l0.length c0] rfl (by (try simp only [List.map_toArray, List.map_cons, List.map_nil]); first | done | rfl | (simp only [List.length_drop, List.length_take]; rfl)) ?_; (with_reducible refine (spec_l15Weights.calls k _ _ l0 true _ ?side1 ?side2 A2.out).mono ?_); (case side1 => repeat (first | exact HR0.out | (with_reducible refine Kd.C_alloc ?_ _) | (with_reducible refine Kd.C_drewN ?_ _) | (with_reducible refine Kd.C_drew ?_))); (case side2 => exact HC0.out); rintro e w' ⟨rfl, ⟨nd, rfl⟩⟩; refine ⟨_, rfl, ?_⟩) | ((with_reducible refine gate_dst (N := 20) rfl ?_); refine Kd.R_make (Kd.int .i64) _ 3 rfl (N := 20) rfl 23 _ _ rfl (l0.length : Int) rfl rfl Try.underlying23 (.int .i64 0) 8 info3 rfl (by decide) (by omega) 0 (ok := fun _ => True) (okp := fun _ => True) rfl (fun _ hk => hk) trivial (of_decide_eq_true (by first | (with_reducible assumption) | assumption)) (Nat.le_trans (Nat.mul_le_mul_right _ (of_decide_eq_true (by first | (with_reducible assumption) | assumption) : (l0.length : Int).toNat ≤ 35184372088832)) (by omega)) (Below.refl _ _) (Nat.le_refl _) ?_; intro v174 w6 ho7 hb hg_ hnew_; clear hg_ hnew_; (first | rw [← Ny173.out] at ho7 | (simp only [Int.reduceToNat] at ho7; rw [← Ny173.out] at ho7)); have n0_ := Aside0.mk (Kd.R_lower ho7 (below_size (by repeat (first | (with_reducible first | exact HB.out | apply below_alloc | apply pw_below_drewN | apply below_drew1) | exact HB.out)))); have n1_ := Aside0.mk (below_step (by repeat (first | (with_reducible first | exact HB.out | apply below_alloc | apply pw_below_drewN | apply below_drew1) | exact HB.out)) hb); clear HB; have HO175 := n0_; have HB := n1_; clear n0_ n1_; clear hb ho7))
        go_loopg [5, 23] k (fun kq v5 v23 w' => ∃ (x5_1 : List (S97)) (x23_1 : Int), v23 = .int .i64 x23_1 ∧ Aside0 (spec_LengthsOf.l0 kq y173 x5_1 l0 (l0.length : Int) x23_1 = some (r1, r2)) ∧ Aside0 (kq ≤ k) ∧ Aside0 (Kd.R (Kd.int .i64) 3 w' w.heap.size (fun _ => True) v174 y173) ∧ Aside0 (Kd.N k97 97 w' w.heap.size (fun k_ => some k_ ≠ (v174 : Value).ownBlock) v5 x5_1) ∧ Aside0 (Below w.heap.size w w'))
        case atStart => exact ⟨(([] : List (S97))), (0), (by first | rfl | (simp; done) | (simp [*]; done)), H', ⟨Nat.le_refl _⟩, ⟨by (with_reducible repeat (first | apply Kd.R_alloc | apply Kd.R_drewN | apply Kd.R_drew)); exact HO175.out⟩, ⟨by first | exact Kd.S_nil _ _ _ _ _ | exact Kd.N_nil _ _ _ _ _ | exact Kd.V_nil _ _ _ _ _ | exact Kd.Q_nil _ _ _ _ _ | exact Kd.R_nil _ _ _ _ _⟩, ⟨by repeat (first | (with_reducible first | exact HB.out | apply below_alloc | apply pw_below_drewN | apply below_drew1) | exact HB.out)⟩⟩
        case round =>
          clear H'
          try clear p2
          try clear c3
          try clear c4
          try clear c4b0
          try clear c4b1
          try clear c5
          try clear c5b0
          try clear c5b1
          try clear c7
          obtain ⟨x5_1, x23_1, rfl, HA, HK1, HO_4, HO_5, HB⟩ := hrel
          cases gk with
          | zero => exact absurd HA.out (by simp [spec_LengthsOf.l0])
          | succ k1 =>
            have H := HA.out
            clear HA
            simp only [spec_LengthsOf.l0] at H
            by_cases c8 : x23_1 < (l0.length : Int)
            · rw [if_pos c8] at H
              have c8b0 : decide (x23_1 < (l0.length : Int)) = true := decide_eq_true c8
              clear c8
              by_cases c9 : 0 ≤ x23_1
              · rw [if_pos c9] at H
                have c9b0 : decide (0 ≤ x23_1) = true := decide_eq_true c9
                clear c9
                by_cases c10 : x23_1 < (l0.length : Int)
                · rw [if_pos c10] at H
                  have c10b0 : decide (x23_1 < (l0.length : Int)) = true := decide_eq_true c10
                  clear c10
                  obtain ⟨y177, hy177⟩ : ∃ y_ : List Int, y_ = (([x23_1] : List Int)) := ⟨_, rfl⟩
                  replace H : (if x5_1.length < 4398046511104 then (spec_LengthsOf.l0 k1 y173 (x5_1 ++ [(⟨rd l0 x23_1, y177⟩ : S97)]) l0 (l0.length : Int) (wrap64 (x23_1 + 1))) else (none)) = some (r1, r2) := by first | (rw [hy177]; with_reducible exact H) | (have H2_ := (Option.bind_some _ _).symm.trans H; rw [hy177]; with_reducible exact H2_) | (have H2_ := (Option.bind_some _ _).symm.trans H; with_reducible exact H2_) | with_reducible exact H | (rw [hy177]; exact H) | exact H
                  have Ny177 := Aside0.mk hy177
                  clear hy177
                  by_cases c11 : x5_1.length < 4398046511104
                  · rw [if_pos c11] at H
                    have LMc11 := Aside0.mk c11
                    clear c11
                    obtain ⟨y180, hy180⟩ : ∃ y_ : List (S97), y_ = (x5_1 ++ [(⟨rd l0 x23_1, y177⟩ : S97)]) := ⟨_, rfl⟩
                    replace H : (spec_LengthsOf.l0 k1 y173 y180 l0 (l0.length : Int) (wrap64 (x23_1 + 1))) = some (r1, r2) := by first | (rw [hy180]; with_reducible exact H) | (have H2_ := (Option.bind_some _ _).symm.trans H; rw [hy180]; with_reducible exact H2_) | (have H2_ := (Option.bind_some _ _).symm.trans H; with_reducible exact H2_) | with_reducible exact H | (rw [hy180]; exact H) | exact H
                    have Ny180 := Aside0.mk hy180
                    clear hy180
                    have H' := Aside0.mk H
                    clear H
                    have p176 : 0 ≤ (x23_1 : Int) := of_decide_eq_true (by first | (with_reducible assumption) | assumption)
                    have q176 : x23_1 < (l0.length : Int) := of_decide_eq_true (by first | (with_reducible assumption) | assumption)
                    obtain ⟨ad176, e176, hx176_0⟩ := Kd.at_int HR0.out x23_1 p176 q176
                    cases e176
                    replace hx176_0 := (HB.out.cell (World.block_lt_of_cell? w _ hx176_0)).trans hx176_0
                    replace p176 := eq_true p176
                    replace q176 := eq_true q176
                    go_wp2_with (first | ((with_reducible refine gate_dst (N := 31) rfl ?_); refine Kd.R_lit (Kd.int .i64) _ 3 ?hg (N := 31) ?hd (xs := ([x23_1] : List Int)) (inner := [.int .i64 x23_1]) (ok := fun _ => True) (okp := fun _ => True) ?hr ?hp (fun _ hk => hk) trivial (Below.refl _ _) (Nat.le_refl _) (by simp) ?_; (case hd => rfl); (case hg => rfl); (case hr => first | (go_simp; done) | (go_simp; rfl)); (case hp => exact (Reps.one (show Kd.M (Kd.int .i64) _ _ _ x23_1 [.int .i64 x23_1] from rfl) (Reps.none _ _))); intro v178 w12 ho13 hb hg_ hnew_; clear hg_ hnew_; (first | rw [← Ny177.out] at ho13 | (simp only [Int.reduceToNat] at ho13; rw [← Ny177.out] at ho13)); have n0_ := Aside0.mk (Kd.R_elder' (by (with_reducible repeat (first | apply Kd.R_alloc | apply Kd.R_drewN | apply Kd.R_drew)); exact HO_4.out) (Kd.R_base ho13) hb); have n1_ := Aside0.mk (Kd.N_elder' (by (with_reducible repeat (first | apply Kd.N_alloc | apply Kd.N_drewN | apply Kd.N_drew)); exact HO_5.out) (Kd.R_base ho13) hb); have n2_ := Aside0.mk (Kd.R_lower (Kd.R_new' ho13 (Kd.R_lt (by (with_reducible repeat (first | apply Kd.R_alloc | apply Kd.R_drewN | apply Kd.R_drew)); exact HO_4.out))) (below_size (by repeat (first | (with_reducible first | exact HB.out | apply below_alloc | apply pw_below_drewN | apply below_drew1) | exact HB.out)))); have n3_ := Aside0.mk (below_step (by repeat (first | (with_reducible first | exact HB.out | apply below_alloc | apply pw_below_drewN | apply below_drew1) | exact HB.out)) hb); clear HO_4; clear HO_5; clear HB; have HO_4 := n0_; have HO_5 := n1_; have HO179 := n2_; have HB := n3_; clear n0_ n1_ n2_ n3_; clear hb ho13; obtain ⟨Ao14, co14, eo14⟩ := Kd.R_slice HO179.out; subst eo14) | ((with_reducible refine gate_builtin (b := .append) (xs := #[.tmp 28, .tmp 33]) rfl ?_); at_builtin; refine Kd.N_append k97 (w0 := w) w.heap.size rfl (.tmp 28) (.tmp 33) 95 97 (.agg #[(.int .i64 0), (.slice none 0 0)]) 32 rfl Try.underlying95 info97 rfl (by decide) (by omega) u5 x5_1 (⟨rd l0 x23_1, y177⟩ : S97) [.int .i64 (rd l0 x23_1), .slice Ao14 y177.length co14] (fun k_ => some k_ ≠ (v174 : Value).ownBlock) (fun k_ => ((fun k_ => some k_ ≠ (v174 : Value).ownBlock)) k_ ∧ some k_ ≠ (u5 : Value).ownBlock) rfl rfl ?aP (fun _ hk => hk) ?aF ?aO ?aB ?aS ?aL ?_; (case aP => exact (k97_mkF _ _ (⟨rd l0 x23_1, y177⟩ : S97) (Kd.R_reads' (Kd.R_mono (ok' := (fun k_ => ((fun k_ => some k_ ≠ (v174 : Value).ownBlock)) k_ ∧ some k_ ≠ (u5 : Value).ownBlock)) (Kd.R_apart' (HO179.out) (Kd.N_typed HO_5.out) (by decide)) (fun k_ hk => ⟨hk.1.2, hk.2⟩))).2.1 (Kd.R_F (Kd.R_mono (ok' := (fun k_ => ((fun k_ => some k_ ≠ (v174 : Value).ownBlock)) k_ ∧ some k_ ≠ (u5 : Value).ownBlock)) (Kd.R_apart' (HO179.out) (Kd.N_typed HO_5.out) (by decide)) (fun k_ hk => ⟨hk.1.2, hk.2⟩))))); (case aB => exact (by repeat (first | (with_reducible first | exact HB.out | apply below_alloc | apply pw_below_drewN | apply below_drew1) | exact HB.out))); (case aF => exact (fun k_ hk => Kd.fresh' (Kd.R_lt (by (with_reducible repeat (first | apply Kd.R_alloc | apply Kd.R_drewN | apply Kd.R_drew)); exact HO_4.out)) k_ hk)); (case aO => exact (by (with_reducible repeat (first | apply Kd.N_alloc | apply Kd.N_drewN | apply Kd.N_drew)); exact Kd.N_mono HO_5.out (fun _ hk => hk.1))); (case aS => exact (below_size (by repeat (first | (with_reducible first | exact HB.out | apply below_alloc | apply pw_below_drewN | apply below_drew1) | exact HB.out)))); (case aL => have := LMc11.out; omega); intro v181 w15 ho hb hg hat; rw [← Ny180.out] at ho; have n0_ := Aside0.mk (Kd.R_over' (by (with_reducible repeat (first | apply Kd.R_alloc | apply Kd.R_drewN | apply Kd.R_drew)); exact HO_4.out) (Kd.N_typed (by (with_reducible repeat (first | apply Kd.N_alloc | apply Kd.N_drewN | apply Kd.N_drew)); exact HO_5.out)) (by decide) hg); have n1_ := Aside0.mk (hb); have n2_ := Aside0.mk (ho); clear HO_4; clear HB; clear HO_5; clear HO179; have HO_4 := n0_; have HB := n1_; have HO182 := n2_; clear n0_ n1_ n2_; clear ho hb hg hat))
                    go_roundg k1
                    case measure => have := HK1.out; omega
                    case rel => exact ⟨(y180), (wrap64 (x23_1 + 1)), (by first | rfl | (simp; done) | (simp [*]; done)), H', ⟨by have := HK1.out; omega⟩, ⟨by (with_reducible repeat (first | apply Kd.R_alloc | apply Kd.R_drewN | apply Kd.R_drew)); exact Kd.R_mono HO_4.out (fun _ hk => trivial)⟩, ⟨by (with_reducible repeat (first | apply Kd.N_alloc | apply Kd.N_drewN | apply Kd.N_drew)); exact HO182.out⟩, ⟨by repeat (first | (with_reducible first | exact HB.out | apply below_alloc | apply pw_below_drewN | apply below_drew1) | exact HB.out)⟩⟩
                  · rw [if_neg c11] at H
                    exact absurd H (by simp)
                · rw [if_neg c10] at H
                  exact absurd H (by simp)
              · rw [if_neg c9] at H
                exact absurd H (by simp)
            · rw [if_neg c8] at H
              have c8b0 : decide (x23_1 < (l0.length : Int)) = false := decide_eq_false c8
              clear c8
              have H' := Aside0.mk H
              clear H
              go_wp2
              go_loopg [5] k1 (fun kq v5 w' => ∃ (x4_2 : List Int) (x5_2 : List (S97)), Aside0 (spec_LengthsOf.l1 kq x4_2 x5_2 = some (r1, r2)) ∧ Aside0 (kq ≤ k1) ∧ Aside0 (Kd.R (Kd.int .i64) 3 w' w.heap.size (fun _ => True) v174 x4_2) ∧ Aside0 (Kd.N k97 97 w' w.heap.size (fun k_ => some k_ ≠ (v174 : Value).ownBlock) v5 x5_2) ∧ Aside0 (Below w.heap.size w w'))
              case atStart => exact ⟨(y173), (x5_1), H', ⟨Nat.le_refl _⟩, ⟨by (with_reducible repeat (first | apply Kd.R_alloc | apply Kd.R_drewN | apply Kd.R_drew)); exact HO_4.out⟩, ⟨by (with_reducible repeat (first | apply Kd.N_alloc | apply Kd.N_drewN | apply Kd.N_drew)); exact HO_5.out⟩, ⟨by repeat (first | (with_reducible first | exact HB.out | apply below_alloc | apply pw_below_drewN | apply below_drew1) | exact HB.out)⟩⟩
              case round =>
                clear H'
                try clear c1
                try clear p1
                try clear q1
                try clear hx1
                try clear p2
                try clear c3
                try clear c4
                try clear c4b0
                try clear c4b1
                try clear c5
                try clear c5b0
                try clear c5b1
                try clear p6
                try clear c7
                try clear c8
                try clear c8b0
                try clear c9
                try clear c9b0
                try clear c10
                try clear c10b0
                try clear c11
                try clear hx176_0
                try clear p176
                try clear p2
                try clear q176
                obtain ⟨x4_2, x5_2, HA, HK2, HO_4, HO_5, HB⟩ := hrel
                cases gk with
                | zero => exact absurd HA.out (by simp [spec_LengthsOf.l1])
                | succ k2 =>
                  have H := HA.out
                  clear HA
                  simp only [spec_LengthsOf.l1] at H
                  by_cases c16 : (x5_2.length : Int) > 1
                  · rw [if_pos c16] at H
                    have c16b0 : decide (1 < (x5_2.length : Int)) = true := decide_eq_true c16
                    have c16b1 : decide (1 < x5_2.length) = true := decide_eq_true (by omega)
                    clear c16
                    have H' := Aside0.mk H
                    clear H
                    obtain ⟨Ao17, co17, eo17⟩ := Kd.N_slice HO_5.out
                    subst eo17
                    go_wp2_with (first | ((with_reducible refine gate_dst (N := 8) rfl ?_); refine box_event ?hg (N := 8) ?hd (cs := #[.int .i64 0, .slice none 0 0]) (t := 97) ?hr ?_; (case hd => rfl); (case hg => rfl); (case hr => first | (go_simp; done) | (go_simp; rfl)); intro gb183 hg w18 hbox hb; have n0_ := Aside0.mk (Kd.R_below (by (with_reducible repeat (first | apply Kd.R_alloc | apply Kd.R_drewN | apply Kd.R_drew)); exact HO_4.out) hb); have n1_ := Aside0.mk (Kd.N_below (Kd.N_elderB (by (with_reducible repeat (first | apply Kd.N_alloc | apply Kd.N_drewN | apply Kd.N_drew)); exact HO_5.out) gb183 (Nat.le_of_eq hg.symm)) hb); have n2_ := Aside0.mk (below_step (by repeat (first | (with_reducible first | exact HB.out | apply below_alloc | apply pw_below_drewN | apply below_drew1) | exact HB.out)) hb); have n3_ := Aside0.mk (hbox); have n4_ := Aside0.mk ((by rw [hg]; exact (below_size (by repeat (first | (with_reducible first | exact HB.out | apply below_alloc | apply pw_below_drewN | apply below_drew1) | exact HB.out))) : w.heap.size ≤ gb183)); have n5_ := Aside0.mk ((by rw [hg]; exact (below_size (by repeat (first | (with_reducible first | exact HB.out | apply below_alloc | apply pw_below_drewN | apply below_drew1) | exact HB.out))) : w.heap.size ≤ gb183)); clear HO_4; clear HO_5; clear HB; have HO_4 := n0_; have HO_5 := n1_; have HB := n2_; have BK183 := n3_; have GW183 := n4_; have GE183 := n5_; clear n0_ n1_ n2_ n3_ n4_ n5_; clear hb hbox hg; have hcz19_0 : w18.cell? ⟨gb183, 0, none⟩ = some (.int .i64 0) := (blk_cell BK183.out 0).trans rfl; have hcz19_1 : w18.cell? ⟨gb183, 1, none⟩ = some (.slice none 0 0) := (blk_cell BK183.out 1).trans rfl; have hfz19_0 := blk_frozen BK183.out 0; have hfz19_1 := blk_frozen BK183.out 1))
                    go_loopg [5, 9] k2 (fun kq v5 v9 w' => ∃ (x5_3 : List (S97)) (x9_3 : Int) (x184000_3 : Int) (x184001_3 : List Int) (u184001 : Value), v9 = .int .i64 x9_3 ∧ Aside0 (spec_LengthsOf.l2 kq x4_2 x5_3 x9_3 x184000_3 x184001_3 = some (r1, r2)) ∧ Aside0 (kq ≤ k2) ∧ Aside0 (Kd.R (Kd.int .i64) 3 w' w.heap.size (fun k_ => some k_ ≠ (u184001 : Value).ownBlock) v174 x4_2) ∧ Aside0 (Kd.N k97 97 w' w.heap.size (fun k_ => some k_ ≠ (v174 : Value).ownBlock ∧ some k_ ≠ (u184001 : Value).ownBlock ∧ k_ ≠ gb183) v5 x5_3) ∧ Aside0 (Kd.R (Kd.int .i64) 3 w' w.heap.size (fun k_ => some k_ ≠ (v174 : Value).ownBlock) u184001 x184001_3) ∧ Aside0 (w'.heap[gb183]? = some (.cells #[.int .i64 x184000_3, u184001] 97 (0, 0))) ∧ Aside0 (Below w.heap.size w w'))
                    case atStart => exact ⟨(x5_2), (0), (0), (([] : List Int)), (.slice none 0 0), (by first | rfl | (simp; done) | (simp [*]; done)), H', ⟨Nat.le_refl _⟩, ⟨by (with_reducible repeat (first | apply Kd.R_alloc | apply Kd.R_drewN | apply Kd.R_drew)); exact Kd.R_mono (Kd.R_far (p := ⟨gb183, 1, none⟩) (Kd.R_far (p := ⟨gb183, 0, none⟩) (Kd.R_types HO_4.out BK183.out (by decide)) (fun _ hk => hk.2) (.int .i64 0)) (fun _ hk => hk.2) (.slice none 0 0)) (fun _ hk => (by simp [Value.ownBlock]))⟩, ⟨by (with_reducible repeat (first | apply Kd.N_alloc | apply Kd.N_drewN | apply Kd.N_drew)); exact Kd.N_mono (Kd.N_far (p := ⟨gb183, 1, none⟩) (Kd.N_far (p := ⟨gb183, 0, none⟩) (Kd.N_mono HO_5.out (fun k_ hk => (⟨hk, hk.2⟩ : _ ∧ k_ ≠ gb183))) (fun _ hk => hk.2) (.int .i64 0)) (fun _ hk => hk.2) (.slice none 0 0)) (fun _ hk => ⟨hk.1.1, ⟨(by simp [Value.ownBlock]), hk.1.2⟩⟩)⟩, ⟨by first | exact Kd.R_nil _ _ _ _ _ | exact Kd.N_nil _ _ _ _ _ | exact Kd.V_nil _ _ _ _ _ | exact Kd.Q_nil _ _ _ _ _ | exact Kd.S_nil _ _ _ _ _⟩, ⟨by (with_reducible repeat (first | refine blk_drewN ?_ _ | refine blk_drew ?_ | refine blk_alloc ?_ _)); refine blk_put (cs := #[.int .i64 0, .slice none 0 0]) ?_ 1 _ rfl; (with_reducible repeat (first | refine blk_drewN ?_ _ | refine blk_drew ?_ | refine blk_alloc ?_ _)); refine blk_put (cs := #[.int .i64 0, .slice none 0 0]) ?_ 0 _ rfl; (with_reducible repeat (first | refine blk_drewN ?_ _ | refine blk_drew ?_ | refine blk_alloc ?_ _)); exact BK183.out⟩, ⟨by repeat (first | (with_reducible first | exact HB.out | apply below_alloc | apply pw_below_drewN | apply below_drew1 | refine below_set ?_ GE183.out) | exact HB.out)⟩⟩
                    case round =>
                      clear H'
                      try clear c1
                      try clear p1
                      try clear q1
                      try clear hx1
                      try clear p2
                      try clear c3
                      try clear c4
                      try clear c4b0
                      try clear c4b1
                      try clear c5
                      try clear c5b0
                      try clear c5b1
                      try clear p6
                      try clear c7
                      try clear c8
                      try clear c8b0
                      try clear c9
                      try clear c9b0
                      try clear c10
                      try clear c10b0
                      try clear c11
                      try clear c16
                      try clear c16b0
                      try clear c16b1
                      try clear p17
                      try clear q17
                      try clear hx17
                      try clear hcz19_0
                      try clear hcz19_1
                      try clear hfz19_0
                      try clear hfz19_1
                      try clear hx176_0
                      try clear p1
                      try clear p176
                      try clear p2
                      try clear p6
                      try clear q1
                      try clear q176
                      obtain ⟨x5_3, x9_3, x184000_3, x184001_3, u184001, rfl, HA, HK3, HO_4, HO_5, HO_184001, BK183, HB⟩ := hrel
                      cases gk with
                      | zero => exact absurd HA.out (by simp [spec_LengthsOf.l2])
                      | succ k3 =>
                        have H := HA.out
                        clear HA
                        simp only [spec_LengthsOf.l2] at H
                        by_cases c20 : x9_3 < 2
                        · rw [if_pos c20] at H
                          have c20b0 : decide (x9_3 < 2) = true := decide_eq_true c20
                          clear c20
                          have H' := Aside0.mk H
                          clear H
                          obtain ⟨Ao21, co21, eo21⟩ := Kd.N_slice HO_5.out
                          subst eo21
                          go_wp2
                          go_loopg [10, 46] k3 (fun kq v10 v46 w' => ∃ (x10_4 : Int) (x46_4 : Int), v10 = .int .i64 x10_4 ∧ v46 = .int .i64 x46_4 ∧ Aside0 (spec_LengthsOf.l3 kq x4_2 x5_3 x9_3 x10_4 x5_3 (x5_3.length : Int) x46_4 x184000_3 x184001_3 = some (r1, r2)) ∧ Aside0 (kq ≤ k3) ∧ Aside0 (Kd.R (Kd.int .i64) 3 w' w.heap.size (fun k_ => some k_ ≠ (u184001 : Value).ownBlock) v174 x4_2) ∧ Aside0 (Kd.N k97 97 w' w.heap.size (fun k_ => some k_ ≠ (v174 : Value).ownBlock ∧ some k_ ≠ (u184001 : Value).ownBlock ∧ k_ ≠ gb183) (.slice Ao21 x5_3.length co21) x5_3) ∧ Aside0 (Kd.N k97 97 w' w.heap.size (fun k_ => some k_ ≠ (v174 : Value).ownBlock ∧ some k_ ≠ (u184001 : Value).ownBlock ∧ k_ ≠ gb183) (.slice Ao21 x5_3.length co21) x5_3) ∧ Aside0 (Kd.R (Kd.int .i64) 3 w' w.heap.size (fun k_ => some k_ ≠ (v174 : Value).ownBlock) u184001 x184001_3) ∧ Aside0 (w'.heap[gb183]? = some (.cells #[.int .i64 x184000_3, u184001] 97 (0, 0))) ∧ Aside0 (Below w.heap.size w w'))
                          case atStart => exact ⟨(0), (0), (by first | rfl | (simp; done) | (simp [*]; done)), (by first | rfl | (simp; done) | (simp [*]; done)), H', ⟨Nat.le_refl _⟩, ⟨by (with_reducible repeat (first | apply Kd.R_alloc | apply Kd.R_drewN | apply Kd.R_drew)); exact HO_4.out⟩, ⟨by (with_reducible repeat (first | apply Kd.N_alloc | apply Kd.N_drewN | apply Kd.N_drew)); exact HO_5.out⟩, ⟨by (with_reducible repeat (first | apply Kd.N_alloc | apply Kd.N_drewN | apply Kd.N_drew)); exact HO_5.out⟩, ⟨by (with_reducible repeat (first | apply Kd.R_alloc | apply Kd.R_drewN | apply Kd.R_drew)); exact HO_184001.out⟩, ⟨by (with_reducible repeat (first | refine blk_drewN ?_ _ | refine blk_drew ?_ | refine blk_alloc ?_ _)); exact BK183.out⟩, ⟨by repeat (first | (with_reducible first | exact HB.out | apply below_alloc | apply pw_below_drewN | apply below_drew1 | refine below_set ?_ GE183.out) | exact HB.out)⟩⟩
                          case round =>
                            clear H'
                            try clear c1
                            try clear p1
                            try clear q1
                            try clear hx1
                            try clear c2
                            try clear p2
                            try clear c3
                            try clear c4
                            try clear c4b0
                            try clear c4b1
                            try clear c5
                            try clear c5b0
                            try clear c5b1
                            try clear p6
                            try clear c7
                            try clear c8
                            try clear c8b0
                            try clear c9
                            try clear c9b0
                            try clear c10
                            try clear c10b0
                            try clear c11
                            try clear c16
                            try clear c16b0
                            try clear c16b1
                            try clear p17
                            try clear q17
                            try clear hx17
                            try clear c20
                            try clear c20b0
                            try clear hcz19_0
                            try clear hcz19_1
                            try clear hfz19_0
                            try clear hfz19_1
                            try clear hx176_0
                            try clear p1
                            try clear p17
                            try clear p176
                            try clear p2
                            try clear p6
                            try clear q1
                            try clear q17
                            try clear q176
                            obtain ⟨x10_4, x46_4, rfl, rfl, HA, HK4, HO_4, HO_5, HO_44, HO_184001, BK183, HB⟩ := hrel
                            cases gk with
                            | zero => exact absurd HA.out (by simp [spec_LengthsOf.l3])
                            | succ k4 =>
                              have H := HA.out
                              clear HA
                              simp only [spec_LengthsOf.l3] at H
                              by_cases c22 : x46_4 < (x5_3.length : Int)
                              · rw [if_pos c22] at H
                                have c22b0 : decide (x46_4 < (x5_3.length : Int)) = true := decide_eq_true c22
                                clear c22
                                by_cases c23 : 0 ≤ x46_4
                                · rw [if_pos c23] at H
                                  have c23b0 : decide (0 ≤ x46_4) = true := decide_eq_true c23
                                  clear c23
                                  by_cases c24 : x46_4 < (x5_3.length : Int)
                                  · rw [if_pos c24] at H
                                    have c24b0 : decide (x46_4 < (x5_3.length : Int)) = true := decide_eq_true c24
                                    clear c24
                                    by_cases c25 : 0 ≤ x10_4
                                    · rw [if_pos c25] at H
                                      have c25b0 : decide (0 ≤ x10_4) = true := decide_eq_true c25
                                      clear c25
                                      by_cases c26 : x10_4 < (x5_3.length : Int)
                                      · rw [if_pos c26] at H
                                        have c26b0 : decide (x10_4 < (x5_3.length : Int)) = true := decide_eq_true c26
                                        clear c26
                                        by_cases c27 : ((rd_T97 x5_3 x46_4).f0) < ((rd_T97 x5_3 x10_4).f0)
                                        · rw [if_pos c27] at H
                                          have c27b0 : decide (((rd_T97 x5_3 x46_4).f0) < ((rd_T97 x5_3 x10_4).f0)) = true := decide_eq_true c27
                                          clear c27
                                          have H' := Aside0.mk H
                                          clear H
                                          have p184 : 0 ≤ (x46_4 : Int) := of_decide_eq_true (by first | (with_reducible assumption) | assumption)
                                          have q184 : x46_4 < (x5_3.length : Int) := of_decide_eq_true (by first | (with_reducible assumption) | assumption)
                                          obtain ⟨ad184, A184_1, c184_1, e184, hx184_0, hx184_1, hl184_1, hi184_1⟩ := at_T97 (Kd.N_reads' HO_44.out).2.2 x46_4 p184 q184
                                          cases e184
                                          obtain ⟨ce184, hce184, hMe184, hcc184⟩ := Kd.N_get HO_44.out z97 x46_4 p184 (by first | exact q184 | exact of_decide_eq_true (by first | (with_reducible assumption) | assumption) | (have e_ := (Kd.N_reads' HO_44.out).1; omega))
                                          obtain ⟨ua184_1, uc184_1, rfl, ul184_1, ge184_1⟩ := k97_openF hMe184
                                          have hv184_1 := hcc184 1 _ rfl
                                          rw [add_field _ _ 1 (by omega)] at hv184_1
                                          replace hv184_1 := Option.some.inj (hv184_1.symm.trans hx184_1)
                                          injection hv184_1 with hva_ hvn_ hvc_
                                          rw [hva_] at ge184_1
                                          rw [hvc_] at ul184_1
                                          have HL184_1 := Aside0.mk (show Kd.V (Kd.int .i64) 3 _ w.heap.size _ _ ((rd_T97 x5_3 x46_4).f1) from Kd.V_mk ul184_1 ge184_1)
                                          clear hva_ hvn_ hvc_ ge184_1 ul184_1
                                          clear hcc184 hce184
                                          have HR184_1 := Aside0.mk hi184_1
                                          have HC184_1 := Aside0.mk hl184_1
                                          clear hi184_1 hl184_1
                                          replace p184 := eq_true p184
                                          replace q184 := eq_true q184
                                          try go_wp2_with (first | ((with_reducible refine gate_dst (N := 12) rfl ?_); refine box_event ?hg (N := 12) ?hd (cs := #[.int .i64 0, .slice none 0 0]) (t := 97) ?hr ?_; (case hd => rfl); (case hg => rfl); (case hr => first | (go_simp; done) | (go_simp; rfl)); intro gb185 hg w28 hbox hb; have n0_ := Aside0.mk (Kd.R_below (by (with_reducible repeat (first | apply Kd.R_alloc | apply Kd.R_drewN | apply Kd.R_drew)); exact HO_4.out) hb); have n1_ := Aside0.mk (Kd.N_below (Kd.N_elderB (by (with_reducible repeat (first | apply Kd.N_alloc | apply Kd.N_drewN | apply Kd.N_drew)); exact HO_5.out) gb185 (Nat.le_of_eq hg.symm)) hb); have n2_ := Aside0.mk (Kd.N_below (Kd.N_elderB (by (with_reducible repeat (first | apply Kd.N_alloc | apply Kd.N_drewN | apply Kd.N_drew)); exact HO_44.out) gb185 (Nat.le_of_eq hg.symm)) hb); have n3_ := Aside0.mk (Kd.R_below (by (with_reducible repeat (first | apply Kd.R_alloc | apply Kd.R_drewN | apply Kd.R_drew)); exact HO_184001.out) hb); have n4_ := Aside0.mk (Kd.V_below (Kd.V_elderB (by (with_reducible repeat (first | apply Kd.V_alloc | apply Kd.V_drewN | apply Kd.V_drew)); exact HL184_1.out) gb185 (Nat.le_of_eq hg.symm)) hb); have n5_ := Aside0.mk (blk_below (g := gb183) (o := .cells #[.int .i64 x184000_3, u184001] 97 (0, 0)) (by (with_reducible repeat (first | refine blk_drewN ?_ _ | refine blk_drew ?_ | refine blk_alloc ?_ _)); exact BK183.out) hb); have n6_ := Aside0.mk (Kd.C_below (by repeat (first | (with_reducible exact HR184_1.out) | (with_reducible refine Kd.C_alloc ?_ _) | (with_reducible refine Kd.C_drewN ?_ _) | (with_reducible refine Kd.C_drew ?_) | exact HR184_1.out)) hb); have n7_ := Aside0.mk (below_step (by repeat (first | (with_reducible first | exact HB.out | apply below_alloc | apply pw_below_drewN | apply below_drew1 | refine below_set ?_ GE183.out) | exact HB.out)) hb); have n8_ := Aside0.mk (hbox); have n9_ := Aside0.mk ((by rw [hg]; exact (below_size (by repeat (first | (with_reducible first | exact HB.out | apply below_alloc | apply pw_below_drewN | apply below_drew1 | refine below_set ?_ GE183.out) | exact HB.out))) : w.heap.size ≤ gb185)); have n10_ := Aside0.mk ((by rw [hg]; exact (below_size (by repeat (first | (with_reducible first | exact HB.out | apply below_alloc | apply pw_below_drewN | apply below_drew1 | refine below_set ?_ GE183.out) | exact HB.out))) : w.heap.size ≤ gb185)); have n11_ := Aside0.mk ((by rw [hg]; exact Nat.ne_of_lt (blk_lt (g := gb183) (o := .cells #[.int .i64 x184000_3, u184001] 97 (0, 0)) (by (with_reducible repeat (first | refine blk_drewN ?_ _ | refine blk_drew ?_ | refine blk_alloc ?_ _)); exact BK183.out)) : gb183 ≠ gb185)); have n12_ := Aside0.mk ((by rw [hg]; exact Nat.ne_of_gt (blk_lt (g := gb183) (o := .cells #[.int .i64 x184000_3, u184001] 97 (0, 0)) (by (with_reducible repeat (first | refine blk_drewN ?_ _ | refine blk_drew ?_ | refine blk_alloc ?_ _)); exact BK183.out)) : gb185 ≠ gb183)); clear HO_4; clear HO_5; clear HO_44; clear HO_184001; clear HL184_1; clear BK183; clear HR184_1; clear HB; have HO_4 := n0_; have HO_5 := n1_; have HO_44 := n2_; have HO_184001 := n3_; have HL184_1 := n4_; have BK183 := n5_; have HR184_1 := n6_; have HB := n7_; have BK185 := n8_; have GW185 := n9_; have GE185 := n10_; have NB183_185 := n11_; have NB185_183 := n12_; clear n0_ n1_ n2_ n3_ n4_ n5_ n6_ n7_ n8_ n9_ n10_ n11_ n12_; clear hb hbox hg; have hnb29 := NB185_183.out; have hnc29 := NB183_185.out; have hcz30_0 : w28.cell? ⟨gb185, 0, none⟩ = some (.int .i64 0) := (blk_cell BK185.out 0).trans rfl; have hcz30_1 : w28.cell? ⟨gb185, 1, none⟩ = some (.slice none 0 0) := (blk_cell BK185.out 1).trans rfl; have hfz30_0 := blk_frozen BK185.out 0; have hfz30_1 := blk_frozen BK185.out 1))
                                          have n0_ : Aside0 (Kd.R (Kd.int .i64) 3 ((w28.setCell ⟨gb185, 0, none⟩ (.int .i64 ((rd_T97 x5_3 x46_4).f0))).setCell ⟨gb185, 1, none⟩ (.slice A184_1 ((rd_T97 x5_3 x46_4).f1).length c184_1)) w.heap.size (fun k_ => some k_ ≠ (u184001 : Value).ownBlock) v174 x4_2) := ⟨by (with_reducible repeat (first | apply Kd.R_alloc | apply Kd.R_drewN | apply Kd.R_drew)); exact Kd.R_mono (Kd.R_far (p := ⟨gb185, 1, none⟩) (Kd.R_far (p := ⟨gb185, 0, none⟩) (Kd.R_types HO_4.out BK185.out (by decide)) (fun _ hk => hk.2) (.int .i64 ((rd_T97 x5_3 x46_4).f0))) (fun _ hk => hk.2) (.slice A184_1 ((rd_T97 x5_3 x46_4).f1).length c184_1)) (fun _ hk => hk.1)⟩
                                          have n1_ : Aside0 (Kd.N k97 97 ((w28.setCell ⟨gb185, 0, none⟩ (.int .i64 ((rd_T97 x5_3 x46_4).f0))).setCell ⟨gb185, 1, none⟩ (.slice A184_1 ((rd_T97 x5_3 x46_4).f1).length c184_1)) w.heap.size (fun k_ => some k_ ≠ (v174 : Value).ownBlock ∧ some k_ ≠ (u184001 : Value).ownBlock ∧ k_ ≠ gb183 ∧ k_ ≠ gb185) (.slice (some ad184) x5_3.length co21) x5_3) := ⟨by (with_reducible repeat (first | apply Kd.N_alloc | apply Kd.N_drewN | apply Kd.N_drew)); exact Kd.N_mono (Kd.N_far (p := ⟨gb185, 1, none⟩) (Kd.N_far (p := ⟨gb185, 0, none⟩) (Kd.N_mono HO_5.out (fun k_ hk => (⟨hk, hk.2⟩ : _ ∧ k_ ≠ gb185))) (fun _ hk => hk.2) (.int .i64 ((rd_T97 x5_3 x46_4).f0))) (fun _ hk => hk.2) (.slice A184_1 ((rd_T97 x5_3 x46_4).f1).length c184_1)) (fun _ hk => ⟨hk.1.1.1, ⟨hk.1.1.2.1, ⟨hk.1.1.2.2, hk.1.2⟩⟩⟩)⟩
                                          have n2_ : Aside0 (Kd.N k97 97 ((w28.setCell ⟨gb185, 0, none⟩ (.int .i64 ((rd_T97 x5_3 x46_4).f0))).setCell ⟨gb185, 1, none⟩ (.slice A184_1 ((rd_T97 x5_3 x46_4).f1).length c184_1)) w.heap.size (fun k_ => some k_ ≠ (v174 : Value).ownBlock ∧ some k_ ≠ (u184001 : Value).ownBlock ∧ k_ ≠ gb183 ∧ k_ ≠ gb185) (.slice (some ad184) x5_3.length co21) x5_3) := ⟨by (with_reducible repeat (first | apply Kd.N_alloc | apply Kd.N_drewN | apply Kd.N_drew)); exact Kd.N_mono (Kd.N_far (p := ⟨gb185, 1, none⟩) (Kd.N_far (p := ⟨gb185, 0, none⟩) (Kd.N_mono HO_44.out (fun k_ hk => (⟨hk, hk.2⟩ : _ ∧ k_ ≠ gb185))) (fun _ hk => hk.2) (.int .i64 ((rd_T97 x5_3 x46_4).f0))) (fun _ hk => hk.2) (.slice A184_1 ((rd_T97 x5_3 x46_4).f1).length c184_1)) (fun _ hk => ⟨hk.1.1.1, ⟨hk.1.1.2.1, ⟨hk.1.1.2.2, hk.1.2⟩⟩⟩)⟩
                                          have n3_ : Aside0 (Kd.R (Kd.int .i64) 3 ((w28.setCell ⟨gb185, 0, none⟩ (.int .i64 ((rd_T97 x5_3 x46_4).f0))).setCell ⟨gb185, 1, none⟩ (.slice A184_1 ((rd_T97 x5_3 x46_4).f1).length c184_1)) w.heap.size (fun k_ => some k_ ≠ (v174 : Value).ownBlock) u184001 x184001_3) := ⟨by (with_reducible repeat (first | apply Kd.R_alloc | apply Kd.R_drewN | apply Kd.R_drew)); exact Kd.R_mono (Kd.R_far (p := ⟨gb185, 1, none⟩) (Kd.R_far (p := ⟨gb185, 0, none⟩) (Kd.R_types HO_184001.out BK185.out (by decide)) (fun _ hk => hk.2) (.int .i64 ((rd_T97 x5_3 x46_4).f0))) (fun _ hk => hk.2) (.slice A184_1 ((rd_T97 x5_3 x46_4).f1).length c184_1)) (fun _ hk => hk.1)⟩
                                          have n4_ : Aside0 (Kd.V (Kd.int .i64) 3 ((w28.setCell ⟨gb185, 0, none⟩ (.int .i64 ((rd_T97 x5_3 x46_4).f0))).setCell ⟨gb185, 1, none⟩ (.slice A184_1 ((rd_T97 x5_3 x46_4).f1).length c184_1)) w.heap.size (fun k_ => some k_ ≠ (v174 : Value).ownBlock ∧ some k_ ≠ (.slice (some ad184) x5_3.length co21 : Value).ownBlock ∧ some k_ ≠ (u184001 : Value).ownBlock ∧ k_ ≠ gb183 ∧ k_ ≠ gb185) (.slice A184_1 ((rd_T97 x5_3 x46_4).f1).length c184_1) ((rd_T97 x5_3 x46_4).f1)) := ⟨by (with_reducible repeat (first | apply Kd.V_alloc | apply Kd.V_drewN | apply Kd.V_drew)); exact Kd.V_mono (Kd.V_far (p := ⟨gb185, 1, none⟩) (Kd.V_far (p := ⟨gb185, 0, none⟩) (Kd.V_mono HL184_1.out (fun k_ hk => (⟨hk, hk.2⟩ : _ ∧ k_ ≠ gb185))) (fun _ hk => hk.2) (.int .i64 ((rd_T97 x5_3 x46_4).f0))) (fun _ hk => hk.2) (.slice A184_1 ((rd_T97 x5_3 x46_4).f1).length c184_1)) (fun _ hk => ⟨hk.1.1.1.1, ⟨hk.1.1.2, ⟨hk.1.1.1.2.1, ⟨hk.1.1.1.2.2, hk.1.2⟩⟩⟩⟩)⟩
                                          have n5_ : Aside0 (((w28.setCell ⟨gb185, 0, none⟩ (.int .i64 ((rd_T97 x5_3 x46_4).f0))).setCell ⟨gb185, 1, none⟩ (.slice A184_1 ((rd_T97 x5_3 x46_4).f1).length c184_1)).heap[gb183]? = some (.cells #[.int .i64 x184000_3, u184001] 97 (0, 0))) := ⟨by (with_reducible repeat (first | refine blk_drewN ?_ _ | refine blk_drew ?_ | refine blk_alloc ?_ _)); refine blk_far ?_ NB183_185.out _; (with_reducible repeat (first | refine blk_drewN ?_ _ | refine blk_drew ?_ | refine blk_alloc ?_ _)); refine blk_far ?_ NB183_185.out _; (with_reducible repeat (first | refine blk_drewN ?_ _ | refine blk_drew ?_ | refine blk_alloc ?_ _)); exact BK183.out⟩
                                          have n6_ : Aside0 (((w28.setCell ⟨gb185, 0, none⟩ (.int .i64 ((rd_T97 x5_3 x46_4).f0))).setCell ⟨gb185, 1, none⟩ (.slice A184_1 ((rd_T97 x5_3 x46_4).f1).length c184_1)).heap[gb185]? = some (.cells #[.int .i64 ((rd_T97 x5_3 x46_4).f0), .slice A184_1 ((rd_T97 x5_3 x46_4).f1).length c184_1] 97 (0, 0))) := ⟨by (with_reducible repeat (first | refine blk_drewN ?_ _ | refine blk_drew ?_ | refine blk_alloc ?_ _)); refine blk_put (cs := #[.int .i64 ((rd_T97 x5_3 x46_4).f0), .slice none 0 0]) ?_ 1 _ rfl; (with_reducible repeat (first | refine blk_drewN ?_ _ | refine blk_drew ?_ | refine blk_alloc ?_ _)); refine blk_put (cs := #[.int .i64 0, .slice none 0 0]) ?_ 0 _ rfl; (with_reducible repeat (first | refine blk_drewN ?_ _ | refine blk_drew ?_ | refine blk_alloc ?_ _)); exact BK185.out⟩
                                          have n7_ : Aside0 (Below w.heap.size w ((w28.setCell ⟨gb185, 0, none⟩ (.int .i64 ((rd_T97 x5_3 x46_4).f0))).setCell ⟨gb185, 1, none⟩ (.slice A184_1 ((rd_T97 x5_3 x46_4).f1).length c184_1))) := ⟨by repeat (first | (with_reducible first | exact HB.out | apply below_alloc | apply pw_below_drewN | apply below_drew1 | refine below_set ?_ GE183.out | refine below_set ?_ GE185.out) | exact HB.out)⟩
                                          (try clear HO_4)
                                          (try clear HO_5)
                                          (try clear HO_44)
                                          (try clear HO_184001)
                                          (try clear HL184_1)
                                          (try clear BK183)
                                          (try clear BK185)
                                          (try clear HB)
                                          generalize ((w28.setCell ⟨gb185, 0, none⟩ (.int .i64 ((rd_T97 x5_3 x46_4).f0))).setCell ⟨gb185, 1, none⟩ (.slice A184_1 ((rd_T97 x5_3 x46_4).f1).length c184_1)) = w31 at n0_ n1_ n2_ n3_ n4_ n5_ n6_ n7_ ⊢
                                          have HO_4 := n0_
                                          have HO_5 := n1_
                                          have HO_44 := n2_
                                          have HO_184001 := n3_
                                          have HL184_1 := n4_
                                          have BK183 := n5_
                                          have BK185 := n6_
                                          have HB := n7_
                                          clear n0_ n1_ n2_ n3_ n4_ n5_ n6_ n7_
                                          have n0_ := Aside0.mk (Kd.R_drew HO_4.out)
                                          have n1_ := Aside0.mk (Kd.N_drew HO_5.out)
                                          have n2_ := Aside0.mk (Kd.N_drew HO_44.out)
                                          have n3_ := Aside0.mk (Kd.R_drew HO_184001.out)
                                          have n4_ := Aside0.mk (Kd.V_drew HL184_1.out)
                                          have n5_ := Aside0.mk (blk_drew BK183.out)
                                          have n6_ := Aside0.mk (blk_drew BK185.out)
                                          have n7_ := Aside0.mk (below_drew1 HB.out)
                                          clear HO_4
                                          clear HO_5
                                          clear HO_44
                                          clear HO_184001
                                          clear HL184_1
                                          clear BK183
                                          clear BK185
                                          clear HB
                                          have HO_4 := n0_
                                          have HO_5 := n1_
                                          have HO_44 := n2_
                                          have HO_184001 := n3_
                                          have HL184_1 := n4_
                                          have BK183 := n5_
                                          have BK185 := n6_
                                          have HB := n7_
                                          clear n0_ n1_ n2_ n3_ n4_ n5_ n6_ n7_
                                          have p186 : 0 ≤ (x10_4 : Int) := of_decide_eq_true (by first | (with_reducible assumption) | assumption)
                                          have q186 : x10_4 < (x5_3.length : Int) := of_decide_eq_true (by first | (with_reducible assumption) | assumption)
                                          obtain ⟨ad186, A186_1, c186_1, e186, hx186_0, hx186_1, hl186_1, hi186_1⟩ := at_T97 (Kd.N_reads' HO_5.out).2.2 x10_4 p186 q186
                                          obtain rfl : ad184 = ad186 := (by injection e186)
                                          obtain ⟨ce186, hce186, hMe186, hcc186⟩ := Kd.N_get HO_5.out z97 x10_4 p186 (by first | exact q186 | exact of_decide_eq_true (by first | (with_reducible assumption) | assumption) | (have e_ := (Kd.N_reads' HO_5.out).1; omega))
                                          obtain ⟨ua186_1, uc186_1, rfl, ul186_1, ge186_1⟩ := k97_openF hMe186
                                          have hv186_1 := hcc186 1 _ rfl
                                          rw [add_field _ _ 1 (by omega)] at hv186_1
                                          replace hv186_1 := Option.some.inj (hv186_1.symm.trans hx186_1)
                                          injection hv186_1 with hva_ hvn_ hvc_
                                          rw [hva_] at ge186_1
                                          rw [hvc_] at ul186_1
                                          have HL186_1 := Aside0.mk (show Kd.V (Kd.int .i64) 3 _ w.heap.size _ _ ((rd_T97 x5_3 x10_4).f1) from Kd.V_mk ul186_1 ge186_1)
                                          clear hva_ hvn_ hvc_ ge186_1 ul186_1
                                          clear hcc186 hce186
                                          have HR186_1 := Aside0.mk hi186_1
                                          have HC186_1 := Aside0.mk hl186_1
                                          clear hi186_1 hl186_1
                                          replace p186 := eq_true p186
                                          replace q186 := eq_true q186
                                          refine start_ (n := 8) (S := fun w' => w'.cell? ⟨gb185, 0, none⟩ = some (.int .i64 ((rd_T97 x5_3 x46_4).f0)) ∧ w'.cell? ⟨gb185, 1, none⟩ = some (.slice A184_1 ((rd_T97 x5_3 x46_4).f1).length c184_1) ∧ w'.cell? (ad184.add ((x10_4).toNat * 2)) = some (.int .i64 ((rd_T97 x5_3 x10_4).f0)) ∧ w'.cell? ⟨(ad184.add ((x10_4).toNat * 2)).block, (ad184.add ((x10_4).toNat * 2)).off + 1, none⟩ = some (.slice A186_1 ((rd_T97 x5_3 x10_4).f1).length c186_1)) (ds := []) #[false, false, false, false, false, false, false, false] (by kernel_rfl) rfl rfl ⟨(blk_cell BK185.out 0).trans rfl, (blk_cell BK185.out 1).trans rfl, hx186_0, hx186_1⟩ (fun hHeld => ?_); refine with_tabW spec_LengthsOf.tab19 spec_LengthsOf.bits19 (fun HT_ HW_ => ?_)
                                          generalize w31.drew = w32 at HO_4 HO_5 HO_44 HO_184001 HL184_1 BK183 BK185 HB HL186_1 HR186_1 hx186_0 hx186_1 hHeld ⊢
                                          refine pure_ (i := 0) (N := some 51) (v := ?_) (a' := ?_) #[true, false, false, false, false, false, false, false] rfl rfl (any_of HT_.out (by kernel_rfl)) (fun _ _ _ h => h) (Or.inl ⟨by rfl, ?_⟩) ?_ ?_
                                          rotate_left
                                          · intro w'
                                            go_simp
                                            with_reducible rfl
                                          rotate_left
                                          · simp only [Act.put, List.setIfInBounds_toArray, List.set_cons_zero, List.set_cons_succ, i64_w, i32_w]
                                            rfl
                                          refine pure_ (i := 2) (N := some 53) (v := ?_) (a' := ?_) #[true, false, true, false, false, false, false, false] rfl rfl (any_of HT_.out (by kernel_rfl)) (fun _ _ _ h => h) (Or.inl ⟨by rfl, ?_⟩) ?_ ?_
                                          rotate_left
                                          · intro w'
                                            go_simp
                                            with_reducible rfl
                                          rotate_left
                                          · simp only [Act.put, List.setIfInBounds_toArray, List.set_cons_zero, List.set_cons_succ, i64_w, i32_w]
                                            rfl
                                          refine pure_ (i := 3) (N := some 54) (v := ?_) (a' := ?_) #[true, false, true, true, false, false, false, false] rfl rfl (any_of HT_.out (by kernel_rfl)) (fun _ _ _ h => h) (Or.inl ⟨by rfl, ?_⟩) ?_ ?_
                                          rotate_left
                                          · intro w'
                                            go_simp
                                            with_reducible rfl
                                          rotate_left
                                          · simp only [Act.put, List.setIfInBounds_toArray, List.set_cons_zero, List.set_cons_succ, i64_w, i32_w]
                                            rfl
                                          refine pure_ (i := 4) (N := some 55) (v := ?_) (a' := ?_) #[true, false, true, true, true, false, false, false] rfl rfl (any_of HT_.out (by kernel_rfl)) (fun _ _ _ h => h) (Or.inl ⟨by rfl, ?_⟩) ?_ ?_
                                          rotate_left
                                          · intro w'
                                            go_simp
                                            with_reducible rfl
                                          rotate_left
                                          · simp only [Act.put, List.setIfInBounds_toArray, List.set_cons_zero, List.set_cons_succ, i64_w, i32_w]
                                            rfl
                                          refine pure_ (i := 5) (N := some 56) (v := ?_) (a' := ?_) #[true, false, true, true, true, true, false, false] rfl rfl (any_of HT_.out (by kernel_rfl)) (fun _ _ _ h => h) (Or.inl ⟨by rfl, ?_⟩) ?_ ?_
                                          rotate_left
                                          · intro w'
                                            go_simp
                                            with_reducible rfl
                                          rotate_left
                                          · simp only [Act.put, List.setIfInBounds_toArray, List.set_cons_zero, List.set_cons_succ, i64_w, i32_w]
                                            rfl
                                          refine take_ (i := 1) (N := some 52) (v := ?_) (a' := ?_) #[true, true, true, true, true, true, false, false] rfl rfl (take_ofW HT_.out HW_.out (by kernel_rfl)) (fun _ _ _ h => h) (Or.inl ⟨by rfl, ?_⟩) hHeld ?_ ?_
                                          rotate_left
                                          · rintro w' ⟨s0, s1, s2, s3⟩
                                            go_simp
                                            with_reducible rfl
                                          rotate_left
                                          · simp only [Act.put, List.setIfInBounds_toArray, List.set_cons_zero, List.set_cons_succ, i64_w, i32_w]
                                            rfl
                                          refine take_ (i := 6) (N := some 57) (v := ?_) (a' := ?_) #[true, true, true, true, true, true, true, false] rfl rfl (take_ofW HT_.out HW_.out (by kernel_rfl)) (fun _ _ _ h => h) (Or.inl ⟨by rfl, ?_⟩) hHeld ?_ ?_
                                          rotate_left
                                          · rintro w' ⟨s0, s1, s2, s3⟩
                                            go_simp
                                            with_reducible rfl
                                          rotate_left
                                          · simp only [Act.put, List.setIfInBounds_toArray, List.set_cons_zero, List.set_cons_succ, i64_w, i32_w]
                                            rfl
                                          refine pure_ (i := 7) (N := some 58) (v := ?_) (a' := ?_) #[true, true, true, true, true, true, true, true] rfl rfl (any_of HT_.out (by kernel_rfl)) (fun _ _ _ h => h) (Or.inl ⟨by rfl, ?_⟩) ?_ ?_
                                          rotate_left
                                          · intro w'
                                            go_simp
                                            with_reducible rfl
                                          rotate_left
                                          · simp only [Act.put, List.setIfInBounds_toArray, List.set_cons_zero, List.set_cons_succ, i64_w, i32_w]
                                            rfl
                                          refine done_ (done_of HT_.out (by kernel_rfl)) ?_
                                          try go_wp2
                                          go_roundg k4
                                          case measure => have := HK1.out; have := HK2.out; have := HK3.out; have := HK4.out; omega
                                          case rel => exact ⟨(x46_4), (wrap64 (x46_4 + 1)), (by first | rfl | (simp; done) | (simp [*]; done)), (by first | rfl | (simp; done) | (simp [*]; done)), H', ⟨by have := HK1.out; have := HK2.out; have := HK3.out; have := HK4.out; omega⟩, ⟨by (with_reducible repeat (first | apply Kd.R_alloc | apply Kd.R_drewN | apply Kd.R_drew)); exact HO_4.out⟩, ⟨by (with_reducible repeat (first | apply Kd.N_alloc | apply Kd.N_drewN | apply Kd.N_drew)); exact Kd.N_mono HO_5.out (fun _ hk => ⟨hk.1, ⟨hk.2.1, hk.2.2.1⟩⟩)⟩, ⟨by (with_reducible repeat (first | apply Kd.N_alloc | apply Kd.N_drewN | apply Kd.N_drew)); exact Kd.N_mono HO_44.out (fun _ hk => ⟨hk.1, ⟨hk.2.1, hk.2.2.1⟩⟩)⟩, ⟨by (with_reducible repeat (first | apply Kd.R_alloc | apply Kd.R_drewN | apply Kd.R_drew)); exact HO_184001.out⟩, ⟨by (with_reducible repeat (first | refine blk_drewN ?_ _ | refine blk_drew ?_ | refine blk_alloc ?_ _)); exact BK183.out⟩, ⟨by repeat (first | (with_reducible first | exact HB.out | apply below_alloc | apply pw_below_drewN | apply below_drew1 | refine below_set ?_ GE183.out | refine below_set ?_ GE185.out) | exact HB.out)⟩⟩
                                        · rw [if_neg c27] at H
                                          have c27b0 : decide (((rd_T97 x5_3 x46_4).f0) < ((rd_T97 x5_3 x10_4).f0)) = false := decide_eq_false c27
                                          clear c27
                                          have H' := Aside0.mk H
                                          clear H
                                          have p184 : 0 ≤ (x46_4 : Int) := of_decide_eq_true (by first | (with_reducible assumption) | assumption)
                                          have q184 : x46_4 < (x5_3.length : Int) := of_decide_eq_true (by first | (with_reducible assumption) | assumption)
                                          obtain ⟨ad184, A184_1, c184_1, e184, hx184_0, hx184_1, hl184_1, hi184_1⟩ := at_T97 (Kd.N_reads' HO_44.out).2.2 x46_4 p184 q184
                                          cases e184
                                          obtain ⟨ce184, hce184, hMe184, hcc184⟩ := Kd.N_get HO_44.out z97 x46_4 p184 (by first | exact q184 | exact of_decide_eq_true (by first | (with_reducible assumption) | assumption) | (have e_ := (Kd.N_reads' HO_44.out).1; omega))
                                          obtain ⟨ua184_1, uc184_1, rfl, ul184_1, ge184_1⟩ := k97_openF hMe184
                                          have hv184_1 := hcc184 1 _ rfl
                                          rw [add_field _ _ 1 (by omega)] at hv184_1
                                          replace hv184_1 := Option.some.inj (hv184_1.symm.trans hx184_1)
                                          injection hv184_1 with hva_ hvn_ hvc_
                                          rw [hva_] at ge184_1
                                          rw [hvc_] at ul184_1
                                          have HL184_1 := Aside0.mk (show Kd.V (Kd.int .i64) 3 _ w.heap.size _ _ ((rd_T97 x5_3 x46_4).f1) from Kd.V_mk ul184_1 ge184_1)
                                          clear hva_ hvn_ hvc_ ge184_1 ul184_1
                                          clear hcc184 hce184
                                          have HR184_1 := Aside0.mk hi184_1
                                          have HC184_1 := Aside0.mk hl184_1
                                          clear hi184_1 hl184_1
                                          replace p184 := eq_true p184
                                          replace q184 := eq_true q184
                                          try go_wp2_with (first | ((with_reducible refine gate_dst (N := 12) rfl ?_); refine box_event ?hg (N := 12) ?hd (cs := #[.int .i64 0, .slice none 0 0]) (t := 97) ?hr ?_; (case hd => rfl); (case hg => rfl); (case hr => first | (go_simp; done) | (go_simp; rfl)); intro gb185 hg w33 hbox hb; have n0_ := Aside0.mk (Kd.R_below (by (with_reducible repeat (first | apply Kd.R_alloc | apply Kd.R_drewN | apply Kd.R_drew)); exact HO_4.out) hb); have n1_ := Aside0.mk (Kd.N_below (Kd.N_elderB (by (with_reducible repeat (first | apply Kd.N_alloc | apply Kd.N_drewN | apply Kd.N_drew)); exact HO_5.out) gb185 (Nat.le_of_eq hg.symm)) hb); have n2_ := Aside0.mk (Kd.N_below (Kd.N_elderB (by (with_reducible repeat (first | apply Kd.N_alloc | apply Kd.N_drewN | apply Kd.N_drew)); exact HO_44.out) gb185 (Nat.le_of_eq hg.symm)) hb); have n3_ := Aside0.mk (Kd.R_below (by (with_reducible repeat (first | apply Kd.R_alloc | apply Kd.R_drewN | apply Kd.R_drew)); exact HO_184001.out) hb); have n4_ := Aside0.mk (Kd.V_below (Kd.V_elderB (by (with_reducible repeat (first | apply Kd.V_alloc | apply Kd.V_drewN | apply Kd.V_drew)); exact HL184_1.out) gb185 (Nat.le_of_eq hg.symm)) hb); have n5_ := Aside0.mk (blk_below (g := gb183) (o := .cells #[.int .i64 x184000_3, u184001] 97 (0, 0)) (by (with_reducible repeat (first | refine blk_drewN ?_ _ | refine blk_drew ?_ | refine blk_alloc ?_ _)); exact BK183.out) hb); have n6_ := Aside0.mk (Kd.C_below (by repeat (first | (with_reducible exact HR184_1.out) | (with_reducible refine Kd.C_alloc ?_ _) | (with_reducible refine Kd.C_drewN ?_ _) | (with_reducible refine Kd.C_drew ?_) | exact HR184_1.out)) hb); have n7_ := Aside0.mk (below_step (by repeat (first | (with_reducible first | exact HB.out | apply below_alloc | apply pw_below_drewN | apply below_drew1 | refine below_set ?_ GE183.out) | exact HB.out)) hb); have n8_ := Aside0.mk (hbox); have n9_ := Aside0.mk ((by rw [hg]; exact (below_size (by repeat (first | (with_reducible first | exact HB.out | apply below_alloc | apply pw_below_drewN | apply below_drew1 | refine below_set ?_ GE183.out) | exact HB.out))) : w.heap.size ≤ gb185)); have n10_ := Aside0.mk ((by rw [hg]; exact (below_size (by repeat (first | (with_reducible first | exact HB.out | apply below_alloc | apply pw_below_drewN | apply below_drew1 | refine below_set ?_ GE183.out) | exact HB.out))) : w.heap.size ≤ gb185)); have n11_ := Aside0.mk ((by rw [hg]; exact Nat.ne_of_lt (blk_lt (g := gb183) (o := .cells #[.int .i64 x184000_3, u184001] 97 (0, 0)) (by (with_reducible repeat (first | refine blk_drewN ?_ _ | refine blk_drew ?_ | refine blk_alloc ?_ _)); exact BK183.out)) : gb183 ≠ gb185)); have n12_ := Aside0.mk ((by rw [hg]; exact Nat.ne_of_gt (blk_lt (g := gb183) (o := .cells #[.int .i64 x184000_3, u184001] 97 (0, 0)) (by (with_reducible repeat (first | refine blk_drewN ?_ _ | refine blk_drew ?_ | refine blk_alloc ?_ _)); exact BK183.out)) : gb185 ≠ gb183)); clear HO_4; clear HO_5; clear HO_44; clear HO_184001; clear HL184_1; clear BK183; clear HR184_1; clear HB; have HO_4 := n0_; have HO_5 := n1_; have HO_44 := n2_; have HO_184001 := n3_; have HL184_1 := n4_; have BK183 := n5_; have HR184_1 := n6_; have HB := n7_; have BK185 := n8_; have GW185 := n9_; have GE185 := n10_; have NB183_185 := n11_; have NB185_183 := n12_; clear n0_ n1_ n2_ n3_ n4_ n5_ n6_ n7_ n8_ n9_ n10_ n11_ n12_; clear hb hbox hg; have hnb34 := NB185_183.out; have hnc34 := NB183_185.out; have hcz35_0 : w33.cell? ⟨gb185, 0, none⟩ = some (.int .i64 0) := (blk_cell BK185.out 0).trans rfl; have hcz35_1 : w33.cell? ⟨gb185, 1, none⟩ = some (.slice none 0 0) := (blk_cell BK185.out 1).trans rfl; have hfz35_0 := blk_frozen BK185.out 0; have hfz35_1 := blk_frozen BK185.out 1))
                                          have n0_ : Aside0 (Kd.R (Kd.int .i64) 3 ((w33.setCell ⟨gb185, 0, none⟩ (.int .i64 ((rd_T97 x5_3 x46_4).f0))).setCell ⟨gb185, 1, none⟩ (.slice A184_1 ((rd_T97 x5_3 x46_4).f1).length c184_1)) w.heap.size (fun k_ => some k_ ≠ (u184001 : Value).ownBlock) v174 x4_2) := ⟨by (with_reducible repeat (first | apply Kd.R_alloc | apply Kd.R_drewN | apply Kd.R_drew)); exact Kd.R_mono (Kd.R_far (p := ⟨gb185, 1, none⟩) (Kd.R_far (p := ⟨gb185, 0, none⟩) (Kd.R_types HO_4.out BK185.out (by decide)) (fun _ hk => hk.2) (.int .i64 ((rd_T97 x5_3 x46_4).f0))) (fun _ hk => hk.2) (.slice A184_1 ((rd_T97 x5_3 x46_4).f1).length c184_1)) (fun _ hk => hk.1)⟩
                                          have n1_ : Aside0 (Kd.N k97 97 ((w33.setCell ⟨gb185, 0, none⟩ (.int .i64 ((rd_T97 x5_3 x46_4).f0))).setCell ⟨gb185, 1, none⟩ (.slice A184_1 ((rd_T97 x5_3 x46_4).f1).length c184_1)) w.heap.size (fun k_ => some k_ ≠ (v174 : Value).ownBlock ∧ some k_ ≠ (u184001 : Value).ownBlock ∧ k_ ≠ gb183 ∧ k_ ≠ gb185) (.slice (some ad184) x5_3.length co21) x5_3) := ⟨by (with_reducible repeat (first | apply Kd.N_alloc | apply Kd.N_drewN | apply Kd.N_drew)); exact Kd.N_mono (Kd.N_far (p := ⟨gb185, 1, none⟩) (Kd.N_far (p := ⟨gb185, 0, none⟩) (Kd.N_mono HO_5.out (fun k_ hk => (⟨hk, hk.2⟩ : _ ∧ k_ ≠ gb185))) (fun _ hk => hk.2) (.int .i64 ((rd_T97 x5_3 x46_4).f0))) (fun _ hk => hk.2) (.slice A184_1 ((rd_T97 x5_3 x46_4).f1).length c184_1)) (fun _ hk => ⟨hk.1.1.1, ⟨hk.1.1.2.1, ⟨hk.1.1.2.2, hk.1.2⟩⟩⟩)⟩
                                          have n2_ : Aside0 (Kd.N k97 97 ((w33.setCell ⟨gb185, 0, none⟩ (.int .i64 ((rd_T97 x5_3 x46_4).f0))).setCell ⟨gb185, 1, none⟩ (.slice A184_1 ((rd_T97 x5_3 x46_4).f1).length c184_1)) w.heap.size (fun k_ => some k_ ≠ (v174 : Value).ownBlock ∧ some k_ ≠ (u184001 : Value).ownBlock ∧ k_ ≠ gb183 ∧ k_ ≠ gb185) (.slice (some ad184) x5_3.length co21) x5_3) := ⟨by (with_reducible repeat (first | apply Kd.N_alloc | apply Kd.N_drewN | apply Kd.N_drew)); exact Kd.N_mono (Kd.N_far (p := ⟨gb185, 1, none⟩) (Kd.N_far (p := ⟨gb185, 0, none⟩) (Kd.N_mono HO_44.out (fun k_ hk => (⟨hk, hk.2⟩ : _ ∧ k_ ≠ gb185))) (fun _ hk => hk.2) (.int .i64 ((rd_T97 x5_3 x46_4).f0))) (fun _ hk => hk.2) (.slice A184_1 ((rd_T97 x5_3 x46_4).f1).length c184_1)) (fun _ hk => ⟨hk.1.1.1, ⟨hk.1.1.2.1, ⟨hk.1.1.2.2, hk.1.2⟩⟩⟩)⟩
                                          have n3_ : Aside0 (Kd.R (Kd.int .i64) 3 ((w33.setCell ⟨gb185, 0, none⟩ (.int .i64 ((rd_T97 x5_3 x46_4).f0))).setCell ⟨gb185, 1, none⟩ (.slice A184_1 ((rd_T97 x5_3 x46_4).f1).length c184_1)) w.heap.size (fun k_ => some k_ ≠ (v174 : Value).ownBlock) u184001 x184001_3) := ⟨by (with_reducible repeat (first | apply Kd.R_alloc | apply Kd.R_drewN | apply Kd.R_drew)); exact Kd.R_mono (Kd.R_far (p := ⟨gb185, 1, none⟩) (Kd.R_far (p := ⟨gb185, 0, none⟩) (Kd.R_types HO_184001.out BK185.out (by decide)) (fun _ hk => hk.2) (.int .i64 ((rd_T97 x5_3 x46_4).f0))) (fun _ hk => hk.2) (.slice A184_1 ((rd_T97 x5_3 x46_4).f1).length c184_1)) (fun _ hk => hk.1)⟩
                                          have n4_ : Aside0 (Kd.V (Kd.int .i64) 3 ((w33.setCell ⟨gb185, 0, none⟩ (.int .i64 ((rd_T97 x5_3 x46_4).f0))).setCell ⟨gb185, 1, none⟩ (.slice A184_1 ((rd_T97 x5_3 x46_4).f1).length c184_1)) w.heap.size (fun k_ => some k_ ≠ (v174 : Value).ownBlock ∧ some k_ ≠ (.slice (some ad184) x5_3.length co21 : Value).ownBlock ∧ some k_ ≠ (u184001 : Value).ownBlock ∧ k_ ≠ gb183 ∧ k_ ≠ gb185) (.slice A184_1 ((rd_T97 x5_3 x46_4).f1).length c184_1) ((rd_T97 x5_3 x46_4).f1)) := ⟨by (with_reducible repeat (first | apply Kd.V_alloc | apply Kd.V_drewN | apply Kd.V_drew)); exact Kd.V_mono (Kd.V_far (p := ⟨gb185, 1, none⟩) (Kd.V_far (p := ⟨gb185, 0, none⟩) (Kd.V_mono HL184_1.out (fun k_ hk => (⟨hk, hk.2⟩ : _ ∧ k_ ≠ gb185))) (fun _ hk => hk.2) (.int .i64 ((rd_T97 x5_3 x46_4).f0))) (fun _ hk => hk.2) (.slice A184_1 ((rd_T97 x5_3 x46_4).f1).length c184_1)) (fun _ hk => ⟨hk.1.1.1.1, ⟨hk.1.1.2, ⟨hk.1.1.1.2.1, ⟨hk.1.1.1.2.2, hk.1.2⟩⟩⟩⟩)⟩
                                          have n5_ : Aside0 (((w33.setCell ⟨gb185, 0, none⟩ (.int .i64 ((rd_T97 x5_3 x46_4).f0))).setCell ⟨gb185, 1, none⟩ (.slice A184_1 ((rd_T97 x5_3 x46_4).f1).length c184_1)).heap[gb183]? = some (.cells #[.int .i64 x184000_3, u184001] 97 (0, 0))) := ⟨by (with_reducible repeat (first | refine blk_drewN ?_ _ | refine blk_drew ?_ | refine blk_alloc ?_ _)); refine blk_far ?_ NB183_185.out _; (with_reducible repeat (first | refine blk_drewN ?_ _ | refine blk_drew ?_ | refine blk_alloc ?_ _)); refine blk_far ?_ NB183_185.out _; (with_reducible repeat (first | refine blk_drewN ?_ _ | refine blk_drew ?_ | refine blk_alloc ?_ _)); exact BK183.out⟩
                                          have n6_ : Aside0 (((w33.setCell ⟨gb185, 0, none⟩ (.int .i64 ((rd_T97 x5_3 x46_4).f0))).setCell ⟨gb185, 1, none⟩ (.slice A184_1 ((rd_T97 x5_3 x46_4).f1).length c184_1)).heap[gb185]? = some (.cells #[.int .i64 ((rd_T97 x5_3 x46_4).f0), .slice A184_1 ((rd_T97 x5_3 x46_4).f1).length c184_1] 97 (0, 0))) := ⟨by (with_reducible repeat (first | refine blk_drewN ?_ _ | refine blk_drew ?_ | refine blk_alloc ?_ _)); refine blk_put (cs := #[.int .i64 ((rd_T97 x5_3 x46_4).f0), .slice none 0 0]) ?_ 1 _ rfl; (with_reducible repeat (first | refine blk_drewN ?_ _ | refine blk_drew ?_ | refine blk_alloc ?_ _)); refine blk_put (cs := #[.int .i64 0, .slice none 0 0]) ?_ 0 _ rfl; (with_reducible repeat (first | refine blk_drewN ?_ _ | refine blk_drew ?_ | refine blk_alloc ?_ _)); exact BK185.out⟩
                                          have n7_ : Aside0 (Below w.heap.size w ((w33.setCell ⟨gb185, 0, none⟩ (.int .i64 ((rd_T97 x5_3 x46_4).f0))).setCell ⟨gb185, 1, none⟩ (.slice A184_1 ((rd_T97 x5_3 x46_4).f1).length c184_1))) := ⟨by repeat (first | (with_reducible first | exact HB.out | apply below_alloc | apply pw_below_drewN | apply below_drew1 | refine below_set ?_ GE183.out | refine below_set ?_ GE185.out) | exact HB.out)⟩
                                          (try clear HO_4)
                                          (try clear HO_5)
                                          (try clear HO_44)
                                          (try clear HO_184001)
                                          (try clear HL184_1)
                                          (try clear BK183)
                                          (try clear BK185)
                                          (try clear HB)
                                          generalize ((w33.setCell ⟨gb185, 0, none⟩ (.int .i64 ((rd_T97 x5_3 x46_4).f0))).setCell ⟨gb185, 1, none⟩ (.slice A184_1 ((rd_T97 x5_3 x46_4).f1).length c184_1)) = w36 at n0_ n1_ n2_ n3_ n4_ n5_ n6_ n7_ ⊢
                                          have HO_4 := n0_
                                          have HO_5 := n1_
                                          have HO_44 := n2_
                                          have HO_184001 := n3_
                                          have HL184_1 := n4_
                                          have BK183 := n5_
                                          have BK185 := n6_
                                          have HB := n7_
                                          clear n0_ n1_ n2_ n3_ n4_ n5_ n6_ n7_
                                          have n0_ := Aside0.mk (Kd.R_drew HO_4.out)
                                          have n1_ := Aside0.mk (Kd.N_drew HO_5.out)
                                          have n2_ := Aside0.mk (Kd.N_drew HO_44.out)
                                          have n3_ := Aside0.mk (Kd.R_drew HO_184001.out)
                                          have n4_ := Aside0.mk (Kd.V_drew HL184_1.out)
                                          have n5_ := Aside0.mk (blk_drew BK183.out)
                                          have n6_ := Aside0.mk (blk_drew BK185.out)
                                          have n7_ := Aside0.mk (below_drew1 HB.out)
                                          clear HO_4
                                          clear HO_5
                                          clear HO_44
                                          clear HO_184001
                                          clear HL184_1
                                          clear BK183
                                          clear BK185
                                          clear HB
                                          have HO_4 := n0_
                                          have HO_5 := n1_
                                          have HO_44 := n2_
                                          have HO_184001 := n3_
                                          have HL184_1 := n4_
                                          have BK183 := n5_
                                          have BK185 := n6_
                                          have HB := n7_
                                          clear n0_ n1_ n2_ n3_ n4_ n5_ n6_ n7_
                                          have p186 : 0 ≤ (x10_4 : Int) := of_decide_eq_true (by first | (with_reducible assumption) | assumption)
                                          have q186 : x10_4 < (x5_3.length : Int) := of_decide_eq_true (by first | (with_reducible assumption) | assumption)
                                          obtain ⟨ad186, A186_1, c186_1, e186, hx186_0, hx186_1, hl186_1, hi186_1⟩ := at_T97 (Kd.N_reads' HO_5.out).2.2 x10_4 p186 q186
                                          obtain rfl : ad184 = ad186 := (by injection e186)
                                          obtain ⟨ce186, hce186, hMe186, hcc186⟩ := Kd.N_get HO_5.out z97 x10_4 p186 (by first | exact q186 | exact of_decide_eq_true (by first | (with_reducible assumption) | assumption) | (have e_ := (Kd.N_reads' HO_5.out).1; omega))
                                          obtain ⟨ua186_1, uc186_1, rfl, ul186_1, ge186_1⟩ := k97_openF hMe186
                                          have hv186_1 := hcc186 1 _ rfl
                                          rw [add_field _ _ 1 (by omega)] at hv186_1
                                          replace hv186_1 := Option.some.inj (hv186_1.symm.trans hx186_1)
                                          injection hv186_1 with hva_ hvn_ hvc_
                                          rw [hva_] at ge186_1
                                          rw [hvc_] at ul186_1
                                          have HL186_1 := Aside0.mk (show Kd.V (Kd.int .i64) 3 _ w.heap.size _ _ ((rd_T97 x5_3 x10_4).f1) from Kd.V_mk ul186_1 ge186_1)
                                          clear hva_ hvn_ hvc_ ge186_1 ul186_1
                                          clear hcc186 hce186
                                          have HR186_1 := Aside0.mk hi186_1
                                          have HC186_1 := Aside0.mk hl186_1
                                          clear hi186_1 hl186_1
                                          replace p186 := eq_true p186
                                          replace q186 := eq_true q186
                                          refine start_ (n := 8) (S := fun w' => w'.cell? ⟨gb185, 0, none⟩ = some (.int .i64 ((rd_T97 x5_3 x46_4).f0)) ∧ w'.cell? ⟨gb185, 1, none⟩ = some (.slice A184_1 ((rd_T97 x5_3 x46_4).f1).length c184_1) ∧ w'.cell? (ad184.add ((x10_4).toNat * 2)) = some (.int .i64 ((rd_T97 x5_3 x10_4).f0)) ∧ w'.cell? ⟨(ad184.add ((x10_4).toNat * 2)).block, (ad184.add ((x10_4).toNat * 2)).off + 1, none⟩ = some (.slice A186_1 ((rd_T97 x5_3 x10_4).f1).length c186_1)) (ds := []) #[false, false, false, false, false, false, false, false] (by kernel_rfl) rfl rfl ⟨(blk_cell BK185.out 0).trans rfl, (blk_cell BK185.out 1).trans rfl, hx186_0, hx186_1⟩ (fun hHeld => ?_); refine with_tabW spec_LengthsOf.tab19 spec_LengthsOf.bits19 (fun HT_ HW_ => ?_)
                                          generalize w36.drew = w37 at HO_4 HO_5 HO_44 HO_184001 HL184_1 BK183 BK185 HB HL186_1 HR186_1 hx186_0 hx186_1 hHeld ⊢
                                          refine pure_ (i := 0) (N := some 51) (v := ?_) (a' := ?_) #[true, false, false, false, false, false, false, false] rfl rfl (any_of HT_.out (by kernel_rfl)) (fun _ _ _ h => h) (Or.inl ⟨by rfl, ?_⟩) ?_ ?_
                                          rotate_left
                                          · intro w'
                                            go_simp
                                            with_reducible rfl
                                          rotate_left
                                          · simp only [Act.put, List.setIfInBounds_toArray, List.set_cons_zero, List.set_cons_succ, i64_w, i32_w]
                                            rfl
                                          refine pure_ (i := 2) (N := some 53) (v := ?_) (a' := ?_) #[true, false, true, false, false, false, false, false] rfl rfl (any_of HT_.out (by kernel_rfl)) (fun _ _ _ h => h) (Or.inl ⟨by rfl, ?_⟩) ?_ ?_
                                          rotate_left
                                          · intro w'
                                            go_simp
                                            with_reducible rfl
                                          rotate_left
                                          · simp only [Act.put, List.setIfInBounds_toArray, List.set_cons_zero, List.set_cons_succ, i64_w, i32_w]
                                            rfl
                                          refine pure_ (i := 3) (N := some 54) (v := ?_) (a' := ?_) #[true, false, true, true, false, false, false, false] rfl rfl (any_of HT_.out (by kernel_rfl)) (fun _ _ _ h => h) (Or.inl ⟨by rfl, ?_⟩) ?_ ?_
                                          rotate_left
                                          · intro w'
                                            go_simp
                                            with_reducible rfl
                                          rotate_left
                                          · simp only [Act.put, List.setIfInBounds_toArray, List.set_cons_zero, List.set_cons_succ, i64_w, i32_w]
                                            rfl
                                          refine pure_ (i := 4) (N := some 55) (v := ?_) (a' := ?_) #[true, false, true, true, true, false, false, false] rfl rfl (any_of HT_.out (by kernel_rfl)) (fun _ _ _ h => h) (Or.inl ⟨by rfl, ?_⟩) ?_ ?_
                                          rotate_left
                                          · intro w'
                                            go_simp
                                            with_reducible rfl
                                          rotate_left
                                          · simp only [Act.put, List.setIfInBounds_toArray, List.set_cons_zero, List.set_cons_succ, i64_w, i32_w]
                                            rfl
                                          refine pure_ (i := 5) (N := some 56) (v := ?_) (a' := ?_) #[true, false, true, true, true, true, false, false] rfl rfl (any_of HT_.out (by kernel_rfl)) (fun _ _ _ h => h) (Or.inl ⟨by rfl, ?_⟩) ?_ ?_
                                          rotate_left
                                          · intro w'
                                            go_simp
                                            with_reducible rfl
                                          rotate_left
                                          · simp only [Act.put, List.setIfInBounds_toArray, List.set_cons_zero, List.set_cons_succ, i64_w, i32_w]
                                            rfl
                                          refine take_ (i := 1) (N := some 52) (v := ?_) (a' := ?_) #[true, true, true, true, true, true, false, false] rfl rfl (take_ofW HT_.out HW_.out (by kernel_rfl)) (fun _ _ _ h => h) (Or.inl ⟨by rfl, ?_⟩) hHeld ?_ ?_
                                          rotate_left
                                          · rintro w' ⟨s0, s1, s2, s3⟩
                                            go_simp
                                            with_reducible rfl
                                          rotate_left
                                          · simp only [Act.put, List.setIfInBounds_toArray, List.set_cons_zero, List.set_cons_succ, i64_w, i32_w]
                                            rfl
                                          refine take_ (i := 6) (N := some 57) (v := ?_) (a' := ?_) #[true, true, true, true, true, true, true, false] rfl rfl (take_ofW HT_.out HW_.out (by kernel_rfl)) (fun _ _ _ h => h) (Or.inl ⟨by rfl, ?_⟩) hHeld ?_ ?_
                                          rotate_left
                                          · rintro w' ⟨s0, s1, s2, s3⟩
                                            go_simp
                                            with_reducible rfl
                                          rotate_left
                                          · simp only [Act.put, List.setIfInBounds_toArray, List.set_cons_zero, List.set_cons_succ, i64_w, i32_w]
                                            rfl
                                          refine pure_ (i := 7) (N := some 58) (v := ?_) (a' := ?_) #[true, true, true, true, true, true, true, true] rfl rfl (any_of HT_.out (by kernel_rfl)) (fun _ _ _ h => h) (Or.inl ⟨by rfl, ?_⟩) ?_ ?_
                                          rotate_left
                                          · intro w'
                                            go_simp
                                            with_reducible rfl
                                          rotate_left
                                          · simp only [Act.put, List.setIfInBounds_toArray, List.set_cons_zero, List.set_cons_succ, i64_w, i32_w]
                                            rfl
                                          refine done_ (done_of HT_.out (by kernel_rfl)) ?_
                                          try go_wp2
                                          go_roundg k4
                                          case measure => have := HK1.out; have := HK2.out; have := HK3.out; have := HK4.out; omega
                                          case rel => exact ⟨(x10_4), (wrap64 (x46_4 + 1)), (by first | rfl | (simp; done) | (simp [*]; done)), (by first | rfl | (simp; done) | (simp [*]; done)), H', ⟨by have := HK1.out; have := HK2.out; have := HK3.out; have := HK4.out; omega⟩, ⟨by (with_reducible repeat (first | apply Kd.R_alloc | apply Kd.R_drewN | apply Kd.R_drew)); exact HO_4.out⟩, ⟨by (with_reducible repeat (first | apply Kd.N_alloc | apply Kd.N_drewN | apply Kd.N_drew)); exact Kd.N_mono HO_5.out (fun _ hk => ⟨hk.1, ⟨hk.2.1, hk.2.2.1⟩⟩)⟩, ⟨by (with_reducible repeat (first | apply Kd.N_alloc | apply Kd.N_drewN | apply Kd.N_drew)); exact Kd.N_mono HO_44.out (fun _ hk => ⟨hk.1, ⟨hk.2.1, hk.2.2.1⟩⟩)⟩, ⟨by (with_reducible repeat (first | apply Kd.R_alloc | apply Kd.R_drewN | apply Kd.R_drew)); exact HO_184001.out⟩, ⟨by (with_reducible repeat (first | refine blk_drewN ?_ _ | refine blk_drew ?_ | refine blk_alloc ?_ _)); exact BK183.out⟩, ⟨by repeat (first | (with_reducible first | exact HB.out | apply below_alloc | apply pw_below_drewN | apply below_drew1 | refine below_set ?_ GE183.out | refine below_set ?_ GE185.out) | exact HB.out)⟩⟩
                                      · rw [if_neg c26] at H
                                        exact absurd H (by simp)
                                    · rw [if_neg c25] at H
                                      exact absurd H (by simp)
                                  · rw [if_neg c24] at H
                                    exact absurd H (by simp)
                                · rw [if_neg c23] at H
                                  exact absurd H (by simp)
                              · rw [if_neg c22] at H
                                have c22b0 : decide (x46_4 < (x5_3.length : Int)) = false := decide_eq_false c22
                                clear c22
                                by_cases c38 : 0 ≤ x10_4
                                · rw [if_pos c38] at H
                                  have c38b0 : decide (0 ≤ x10_4) = true := decide_eq_true c38
                                  clear c38
                                  by_cases c39 : x10_4 < (x5_3.length : Int)
                                  · rw [if_pos c39] at H
                                    have c39b0 : decide (x10_4 < (x5_3.length : Int)) = true := decide_eq_true c39
                                    clear c39
                                    by_cases c40 : x184001_3.length + ((rd_T97 x5_3 x10_4).f1).length < 17592186044416
                                    · rw [if_pos c40] at H
                                      have LMc40 := Aside0.mk c40
                                      clear c40
                                      obtain ⟨y189, hy189⟩ : ∃ y_ : List Int, y_ = (x184001_3 ++ ((rd_T97 x5_3 x10_4).f1)) := ⟨_, rfl⟩
                                      replace H : ((some (([] : List (S97)) : List (S97))).bind fun y192 => (if x10_4 ≤ (x5_3.length : Int) then ((some (x5_3.take (x10_4 : Int).toNat : List (S97))).bind fun y195 => (if y192.length + y195.length < 4398046511104 then ((some (y192 ++ y195 : List (S97))).bind fun y200 => (if 0 ≤ (wrap64 (x10_4 + 1)) then (if (wrap64 (x10_4 + 1)) ≤ (x5_3.length : Int) then ((some (x5_3.drop ((wrap64 (x10_4 + 1)) : Int).toNat : List (S97))).bind fun y203 => (if y200.length + y203.length < 4398046511104 then (spec_LengthsOf.l2 k4 x4_2 (y200 ++ y203) (wrap64 (x9_3 + 1)) (wrap64 (x184000_3 + ((rd_T97 x5_3 x10_4).f0))) y189) else (none))) else (none)) else (none))) else (none))) else (none))) = some (r1, r2) := by first | (rw [hy189]; with_reducible exact H) | (have H2_ := (Option.bind_some _ _).symm.trans H; rw [hy189]; with_reducible exact H2_) | (have H2_ := (Option.bind_some _ _).symm.trans H; with_reducible exact H2_) | with_reducible exact H | (rw [hy189]; exact H) | exact H
                                      have Ny189 := Aside0.mk hy189
                                      clear hy189
                                      obtain ⟨y192, hy192⟩ : ∃ y_ : List (S97), y_ = (([] : List (S97))) := ⟨_, rfl⟩
                                      replace H : (if x10_4 ≤ (x5_3.length : Int) then ((some (x5_3.take (x10_4 : Int).toNat : List (S97))).bind fun y195 => (if y192.length + y195.length < 4398046511104 then ((some (y192 ++ y195 : List (S97))).bind fun y200 => (if 0 ≤ (wrap64 (x10_4 + 1)) then (if (wrap64 (x10_4 + 1)) ≤ (x5_3.length : Int) then ((some (x5_3.drop ((wrap64 (x10_4 + 1)) : Int).toNat : List (S97))).bind fun y203 => (if y200.length + y203.length < 4398046511104 then (spec_LengthsOf.l2 k4 x4_2 (y200 ++ y203) (wrap64 (x9_3 + 1)) (wrap64 (x184000_3 + ((rd_T97 x5_3 x10_4).f0))) y189) else (none))) else (none)) else (none))) else (none))) else (none)) = some (r1, r2) := by first | (rw [hy192]; with_reducible exact H) | (have H2_ := (Option.bind_some _ _).symm.trans H; rw [hy192]; with_reducible exact H2_) | (have H2_ := (Option.bind_some _ _).symm.trans H; with_reducible exact H2_) | with_reducible exact H | (rw [hy192]; exact H) | exact H
                                      have Ny192 := Aside0.mk hy192
                                      clear hy192
                                      have c41b0 := eq_true (of_decide_eq_true (by first | (with_reducible assumption) | assumption) : 0 ≤ x10_4)
                                      by_cases c42 : x10_4 ≤ (x5_3.length : Int)
                                      · rw [if_pos c42] at H
                                        have c42b0 := eq_true c42
                                        have c42b1 : decide (x10_4 ≤ (x5_3.length : Int)) = true := decide_eq_true c42
                                        clear c42
                                        obtain ⟨y195, hy195⟩ : ∃ y_ : List (S97), y_ = (x5_3.take (x10_4 : Int).toNat) := ⟨_, rfl⟩
                                        replace H : (if y192.length + y195.length < 4398046511104 then ((some (y192 ++ y195 : List (S97))).bind fun y200 => (if 0 ≤ (wrap64 (x10_4 + 1)) then (if (wrap64 (x10_4 + 1)) ≤ (x5_3.length : Int) then ((some (x5_3.drop ((wrap64 (x10_4 + 1)) : Int).toNat : List (S97))).bind fun y203 => (if y200.length + y203.length < 4398046511104 then (spec_LengthsOf.l2 k4 x4_2 (y200 ++ y203) (wrap64 (x9_3 + 1)) (wrap64 (x184000_3 + ((rd_T97 x5_3 x10_4).f0))) y189) else (none))) else (none)) else (none))) else (none)) = some (r1, r2) := by first | (rw [hy195]; with_reducible exact H) | (have H2_ := (Option.bind_some _ _).symm.trans H; rw [hy195]; with_reducible exact H2_) | (have H2_ := (Option.bind_some _ _).symm.trans H; with_reducible exact H2_) | with_reducible exact H | (rw [hy195]; exact H) | exact H
                                        have Ny195 := Aside0.mk hy195
                                        clear hy195
                                        by_cases c43 : y192.length + y195.length < 4398046511104
                                        · rw [if_pos c43] at H
                                          have LMc43 := Aside0.mk c43
                                          clear c43
                                          obtain ⟨y200, hy200⟩ : ∃ y_ : List (S97), y_ = (y192 ++ y195) := ⟨_, rfl⟩
                                          replace H : (if 0 ≤ (wrap64 (x10_4 + 1)) then (if (wrap64 (x10_4 + 1)) ≤ (x5_3.length : Int) then ((some (x5_3.drop ((wrap64 (x10_4 + 1)) : Int).toNat : List (S97))).bind fun y203 => (if y200.length + y203.length < 4398046511104 then (spec_LengthsOf.l2 k4 x4_2 (y200 ++ y203) (wrap64 (x9_3 + 1)) (wrap64 (x184000_3 + ((rd_T97 x5_3 x10_4).f0))) y189) else (none))) else (none)) else (none)) = some (r1, r2) := by first | (rw [hy200]; with_reducible exact H) | (have H2_ := (Option.bind_some _ _).symm.trans H; rw [hy200]; with_reducible exact H2_) | (have H2_ := (Option.bind_some _ _).symm.trans H; with_reducible exact H2_) | with_reducible exact H | (rw [hy200]; exact H) | exact H
                                          have Ny200 := Aside0.mk hy200
                                          clear hy200
                                          obtain ⟨ji44, hji44⟩ : ∃ j_ : Int, (wrap64 (x10_4 + 1)) = j_ := ⟨_, rfl⟩
                                          replace H : (if 0 ≤ (ji44) then (if (ji44) ≤ (x5_3.length : Int) then ((some (x5_3.drop ((ji44) : Int).toNat : List (S97))).bind fun y203 => (if y200.length + y203.length < 4398046511104 then (spec_LengthsOf.l2 k4 x4_2 (y200 ++ y203) (wrap64 (x9_3 + 1)) (wrap64 (x184000_3 + ((rd_T97 x5_3 x10_4).f0))) y189) else (none))) else (none)) else (none)) = some (r1, r2) := by first | (rw [hji44] at H; exact H) | (simp only [hji44] at H ⊢; exact H)
                                          have hji44w : (IntKind.i64.wrap (x10_4 + 1)) = ji44 := (i64_w _).trans hji44
                                          by_cases c45 : 0 ≤ (ji44)
                                          · rw [if_pos c45] at H
                                            have c45b0 := eq_true c45
                                            have c45b1 : decide (0 ≤ (ji44)) = true := decide_eq_true c45
                                            clear c45
                                            by_cases c46 : (ji44) ≤ (x5_3.length : Int)
                                            · rw [if_pos c46] at H
                                              have c46b0 := eq_true c46
                                              have c46b1 : decide ((ji44) ≤ (x5_3.length : Int)) = true := decide_eq_true c46
                                              clear c46
                                              obtain ⟨y203, hy203⟩ : ∃ y_ : List (S97), y_ = (x5_3.drop ((ji44) : Int).toNat) := ⟨_, rfl⟩
                                              replace H : (if y200.length + y203.length < 4398046511104 then (spec_LengthsOf.l2 k4 x4_2 (y200 ++ y203) (wrap64 (x9_3 + 1)) (wrap64 (x184000_3 + ((rd_T97 x5_3 x10_4).f0))) y189) else (none)) = some (r1, r2) := by first | (rw [hy203]; with_reducible exact H) | (have H2_ := (Option.bind_some _ _).symm.trans H; rw [hy203]; with_reducible exact H2_) | (have H2_ := (Option.bind_some _ _).symm.trans H; with_reducible exact H2_) | with_reducible exact H | (rw [hy203]; exact H) | exact H
                                              have Ny203 := Aside0.mk hy203
                                              clear hy203
                                              by_cases c47 : y200.length + y203.length < 4398046511104
                                              · rw [if_pos c47] at H
                                                have LMc47 := Aside0.mk c47
                                                clear c47
                                                obtain ⟨y208, hy208⟩ : ∃ y_ : List (S97), y_ = (y200 ++ y203) := ⟨_, rfl⟩
                                                replace H : (spec_LengthsOf.l2 k4 x4_2 y208 (wrap64 (x9_3 + 1)) (wrap64 (x184000_3 + ((rd_T97 x5_3 x10_4).f0))) y189) = some (r1, r2) := by first | (rw [hy208]; with_reducible exact H) | (have H2_ := (Option.bind_some _ _).symm.trans H; rw [hy208]; with_reducible exact H2_) | (have H2_ := (Option.bind_some _ _).symm.trans H; with_reducible exact H2_) | with_reducible exact H | (rw [hy208]; exact H) | exact H
                                                have Ny208 := Aside0.mk hy208
                                                clear hy208
                                                have H' := Aside0.mk H
                                                clear H
                                                try go_wp2
                                                have n0_ := Aside0.mk (Kd.R_drew HO_4.out)
                                                have n1_ := Aside0.mk (Kd.N_drew HO_5.out)
                                                have n2_ := Aside0.mk (Kd.N_drew HO_44.out)
                                                have n3_ := Aside0.mk (Kd.R_drew HO_184001.out)
                                                have n4_ := Aside0.mk (blk_drew BK183.out)
                                                have n5_ := Aside0.mk (below_drew1 HB.out)
                                                clear HO_4
                                                clear HO_5
                                                clear HO_44
                                                clear HO_184001
                                                clear BK183
                                                clear HB
                                                have HO_4 := n0_
                                                have HO_5 := n1_
                                                have HO_44 := n2_
                                                have HO_184001 := n3_
                                                have BK183 := n4_
                                                have HB := n5_
                                                clear n0_ n1_ n2_ n3_ n4_ n5_
                                                have p187 : 0 ≤ (x10_4 : Int) := of_decide_eq_true (by first | (with_reducible assumption) | assumption)
                                                have q187 : x10_4 < (x5_3.length : Int) := of_decide_eq_true (by first | (with_reducible assumption) | assumption)
                                                obtain ⟨ad187, A187_1, c187_1, e187, hx187_0, hx187_1, hl187_1, hi187_1⟩ := at_T97 (Kd.N_reads' HO_5.out).2.2 x10_4 p187 q187
                                                cases e187
                                                obtain ⟨ce187, hce187, hMe187, hcc187⟩ := Kd.N_get HO_5.out z97 x10_4 p187 (by first | exact q187 | exact of_decide_eq_true (by first | (with_reducible assumption) | assumption) | (have e_ := (Kd.N_reads' HO_5.out).1; omega))
                                                obtain ⟨ua187_1, uc187_1, rfl, ul187_1, ge187_1⟩ := k97_openF hMe187
                                                have hv187_1 := hcc187 1 _ rfl
                                                rw [add_field _ _ 1 (by omega)] at hv187_1
                                                replace hv187_1 := Option.some.inj (hv187_1.symm.trans hx187_1)
                                                injection hv187_1 with hva_ hvn_ hvc_
                                                rw [hva_] at ge187_1
                                                rw [hvc_] at ul187_1
                                                have HL187_1 := Aside0.mk (show Kd.V (Kd.int .i64) 3 _ w.heap.size _ _ ((rd_T97 x5_3 x10_4).f1) from Kd.V_mk ul187_1 ge187_1)
                                                clear hva_ hvn_ hvc_ ge187_1 ul187_1
                                                clear hcc187 hce187
                                                have HR187_1 := Aside0.mk hi187_1
                                                have HC187_1 := Aside0.mk hl187_1
                                                clear hi187_1 hl187_1
                                                replace p187 := eq_true p187
                                                replace q187 := eq_true q187
                                                refine start_ (n := 10) (S := fun w' => w'.cell? ⟨gb183, 0, none⟩ = some (.int .i64 x184000_3) ∧ w'.cell? ⟨gb183, 1, none⟩ = some (u184001) ∧ w'.cell? (ad187.add ((x10_4).toNat * 2)) = some (.int .i64 ((rd_T97 x5_3 x10_4).f0)) ∧ w'.cell? ⟨(ad187.add ((x10_4).toNat * 2)).block, (ad187.add ((x10_4).toNat * 2)).off + 1, none⟩ = some (.slice A187_1 ((rd_T97 x5_3 x10_4).f1).length c187_1)) (ds := [9]) #[false, false, false, false, false, false, false, false, false, false] (by kernel_rfl) rfl rfl ⟨(blk_cell BK183.out 0).trans rfl, (blk_cell BK183.out 1).trans rfl, hx187_0, hx187_1⟩ (fun hHeld => ?_); refine with_tabW spec_LengthsOf.tab22 spec_LengthsOf.bits22 (fun HT_ HW_ => ?_)
                                                generalize wr.drew = w48 at HO_4 HO_5 HO_44 HO_184001 BK183 HB HL187_1 HR187_1 hx187_0 hx187_1 hHeld ⊢
                                                refine pure_ (i := 0) (N := some 61) (v := ?_) (a' := ?_) #[true, false, false, false, false, false, false, false, false, false] rfl rfl (any_of HT_.out (by kernel_rfl)) (fun _ _ _ h => h) (Or.inl ⟨by rfl, ?_⟩) ?_ ?_
                                                rotate_left
                                                · intro w'
                                                  go_simp
                                                  with_reducible rfl
                                                rotate_left
                                                · simp only [Act.put, List.setIfInBounds_toArray, List.set_cons_zero, List.set_cons_succ, i64_w, i32_w]
                                                  rfl
                                                refine pure_ (i := 2) (N := some 63) (v := ?_) (a' := ?_) #[true, false, true, false, false, false, false, false, false, false] rfl rfl (any_of HT_.out (by kernel_rfl)) (fun _ _ _ h => h) (Or.inl ⟨by rfl, ?_⟩) ?_ ?_
                                                rotate_left
                                                · intro w'
                                                  go_simp
                                                  with_reducible rfl
                                                rotate_left
                                                · simp only [Act.put, List.setIfInBounds_toArray, List.set_cons_zero, List.set_cons_succ, i64_w, i32_w]
                                                  rfl
                                                refine pure_ (i := 3) (N := some 64) (v := ?_) (a' := ?_) #[true, false, true, true, false, false, false, false, false, false] rfl rfl (any_of HT_.out (by kernel_rfl)) (fun _ _ _ h => h) (Or.inl ⟨by rfl, ?_⟩) ?_ ?_
                                                rotate_left
                                                · intro w'
                                                  go_simp
                                                  with_reducible rfl
                                                rotate_left
                                                · simp only [Act.put, List.setIfInBounds_toArray, List.set_cons_zero, List.set_cons_succ, i64_w, i32_w]
                                                  rfl
                                                refine pure_ (i := 4) (N := some 65) (v := ?_) (a' := ?_) #[true, false, true, true, true, false, false, false, false, false] rfl rfl (any_of HT_.out (by kernel_rfl)) (fun _ _ _ h => h) (Or.inl ⟨by rfl, ?_⟩) ?_ ?_
                                                rotate_left
                                                · intro w'
                                                  go_simp
                                                  with_reducible rfl
                                                rotate_left
                                                · simp only [Act.put, List.setIfInBounds_toArray, List.set_cons_zero, List.set_cons_succ, i64_w, i32_w]
                                                  rfl
                                                refine pure_ (i := 5) (N := some 66) (v := ?_) (a' := ?_) #[true, false, true, true, true, true, false, false, false, false] rfl rfl (any_of HT_.out (by kernel_rfl)) (fun _ _ _ h => h) (Or.inl ⟨by rfl, ?_⟩) ?_ ?_
                                                rotate_left
                                                · intro w'
                                                  go_simp
                                                  with_reducible rfl
                                                rotate_left
                                                · simp only [Act.put, List.setIfInBounds_toArray, List.set_cons_zero, List.set_cons_succ, i64_w, i32_w]
                                                  rfl
                                                refine take_ (i := 1) (N := some 62) (v := ?_) (a' := ?_) #[true, true, true, true, true, true, false, false, false, false] rfl rfl (take_ofW HT_.out HW_.out (by kernel_rfl)) (fun _ _ _ h => h) (Or.inl ⟨by rfl, ?_⟩) hHeld ?_ ?_
                                                rotate_left
                                                · rintro w' ⟨s0, s1, s2, s3⟩
                                                  go_simp
                                                  with_reducible rfl
                                                rotate_left
                                                · simp only [Act.put, List.setIfInBounds_toArray, List.set_cons_zero, List.set_cons_succ, i64_w, i32_w]
                                                  rfl
                                                refine take_ (i := 6) (N := some 67) (v := ?_) (a' := ?_) #[true, true, true, true, true, true, true, false, false, false] rfl rfl (take_ofW HT_.out HW_.out (by kernel_rfl)) (fun _ _ _ h => h) (Or.inl ⟨by rfl, ?_⟩) hHeld ?_ ?_
                                                rotate_left
                                                · rintro w' ⟨s0, s1, s2, s3⟩
                                                  go_simp
                                                  with_reducible rfl
                                                rotate_left
                                                · simp only [Act.put, List.setIfInBounds_toArray, List.set_cons_zero, List.set_cons_succ, i64_w, i32_w]
                                                  rfl
                                                refine pure_ (i := 7) (N := some 68) (v := ?_) (a' := ?_) #[true, true, true, true, true, true, true, true, false, false] rfl rfl (any_of HT_.out (by kernel_rfl)) (fun _ _ _ h => h) (Or.inl ⟨by rfl, ?_⟩) ?_ ?_
                                                rotate_left
                                                · intro w'
                                                  go_simp
                                                  with_reducible rfl
                                                rotate_left
                                                · simp only [Act.put, List.setIfInBounds_toArray, List.set_cons_zero, List.set_cons_succ, i64_w, i32_w]
                                                  rfl
                                                refine pure_ (i := 8) (N := some 69) (v := ?_) (a' := ?_) #[true, true, true, true, true, true, true, true, true, false] rfl rfl (any_of HT_.out (by kernel_rfl)) (fun _ _ _ h => h) (Or.inl ⟨by rfl, ?_⟩) ?_ ?_
                                                rotate_left
                                                · intro w'
                                                  go_simp
                                                  with_reducible rfl
                                                rotate_left
                                                · simp only [Act.put, List.setIfInBounds_toArray, List.set_cons_zero, List.set_cons_succ, i64_w, i32_w]
                                                  rfl
                                                refine last_ (i := 9) (N := none) #[true, true, true, true, true, true, true, true, true, true] rfl rfl (one_of HT_.out (by kernel_rfl)) (by decide) (fun K hK => ?_)
                                                have hs49 : w48.cell? ⟨gb183, 0, none⟩ = some (.int .i64 x184000_3) := (blk_cell BK183.out 0).trans rfl
                                                have hfs49 := blk_frozen BK183.out 0
                                                refine skip_ (w1 := ?_) (by rfl) rfl ?_ ?_
                                                rotate_left
                                                · go_simp
                                                  rfl
                                                refine hK.out _ _ ?_
                                                clear hK K
                                                refine done_ (done_of HT_.out (by kernel_rfl)) ?_
                                                try go_wp2
                                                have n0_ : Aside0 (Kd.R (Kd.int .i64) 3 (w48.setCell ⟨gb183, 0, none⟩ (.int .i64 (wrap64 (x184000_3 + ((rd_T97 x5_3 x10_4).f0))))) w.heap.size (fun k_ => some k_ ≠ (u184001 : Value).ownBlock) v174 x4_2) := ⟨by (with_reducible repeat (first | apply Kd.R_alloc | apply Kd.R_drewN | apply Kd.R_drew)); exact Kd.R_mono (Kd.R_far (p := ⟨gb183, 0, none⟩) (Kd.R_types HO_4.out BK183.out (by decide)) (fun _ hk => hk.2) (.int .i64 (wrap64 (x184000_3 + ((rd_T97 x5_3 x10_4).f0))))) (fun _ hk => hk.1)⟩
                                                have n1_ : Aside0 (Kd.N k97 97 (w48.setCell ⟨gb183, 0, none⟩ (.int .i64 (wrap64 (x184000_3 + ((rd_T97 x5_3 x10_4).f0))))) w.heap.size (fun k_ => some k_ ≠ (v174 : Value).ownBlock ∧ some k_ ≠ (u184001 : Value).ownBlock ∧ k_ ≠ gb183) (.slice (some ad187) x5_3.length co21) x5_3) := ⟨by (with_reducible repeat (first | apply Kd.N_alloc | apply Kd.N_drewN | apply Kd.N_drew)); exact Kd.N_mono (Kd.N_far (p := ⟨gb183, 0, none⟩) (Kd.N_mono HO_5.out (fun k_ hk => (⟨hk, hk.2.2⟩ : _ ∧ k_ ≠ gb183))) (fun _ hk => hk.2) (.int .i64 (wrap64 (x184000_3 + ((rd_T97 x5_3 x10_4).f0))))) (fun _ hk => ⟨hk.1.1, ⟨hk.1.2.1, hk.1.2.2⟩⟩)⟩
                                                have n2_ : Aside0 (Kd.N k97 97 (w48.setCell ⟨gb183, 0, none⟩ (.int .i64 (wrap64 (x184000_3 + ((rd_T97 x5_3 x10_4).f0))))) w.heap.size (fun k_ => some k_ ≠ (v174 : Value).ownBlock ∧ some k_ ≠ (u184001 : Value).ownBlock ∧ k_ ≠ gb183) (.slice (some ad187) x5_3.length co21) x5_3) := ⟨by (with_reducible repeat (first | apply Kd.N_alloc | apply Kd.N_drewN | apply Kd.N_drew)); exact Kd.N_mono (Kd.N_far (p := ⟨gb183, 0, none⟩) (Kd.N_mono HO_44.out (fun k_ hk => (⟨hk, hk.2.2⟩ : _ ∧ k_ ≠ gb183))) (fun _ hk => hk.2) (.int .i64 (wrap64 (x184000_3 + ((rd_T97 x5_3 x10_4).f0))))) (fun _ hk => ⟨hk.1.1, ⟨hk.1.2.1, hk.1.2.2⟩⟩)⟩
                                                have n3_ : Aside0 (Kd.R (Kd.int .i64) 3 (w48.setCell ⟨gb183, 0, none⟩ (.int .i64 (wrap64 (x184000_3 + ((rd_T97 x5_3 x10_4).f0))))) w.heap.size (fun k_ => some k_ ≠ (v174 : Value).ownBlock) u184001 x184001_3) := ⟨by (with_reducible repeat (first | apply Kd.R_alloc | apply Kd.R_drewN | apply Kd.R_drew)); exact Kd.R_mono (Kd.R_far (p := ⟨gb183, 0, none⟩) (Kd.R_types HO_184001.out BK183.out (by decide)) (fun _ hk => hk.2) (.int .i64 (wrap64 (x184000_3 + ((rd_T97 x5_3 x10_4).f0))))) (fun _ hk => hk.1)⟩
                                                have n4_ : Aside0 (Kd.V (Kd.int .i64) 3 (w48.setCell ⟨gb183, 0, none⟩ (.int .i64 (wrap64 (x184000_3 + ((rd_T97 x5_3 x10_4).f0))))) w.heap.size (fun k_ => some k_ ≠ (v174 : Value).ownBlock ∧ some k_ ≠ (.slice (some ad187) x5_3.length co21 : Value).ownBlock ∧ some k_ ≠ (u184001 : Value).ownBlock ∧ k_ ≠ gb183) (.slice A187_1 ((rd_T97 x5_3 x10_4).f1).length c187_1) ((rd_T97 x5_3 x10_4).f1)) := ⟨by (with_reducible repeat (first | apply Kd.V_alloc | apply Kd.V_drewN | apply Kd.V_drew)); exact Kd.V_mono (Kd.V_far (p := ⟨gb183, 0, none⟩) (Kd.V_mono HL187_1.out (fun k_ hk => (⟨hk, hk.1.2.2⟩ : _ ∧ k_ ≠ gb183))) (fun _ hk => hk.2) (.int .i64 (wrap64 (x184000_3 + ((rd_T97 x5_3 x10_4).f0))))) (fun _ hk => ⟨hk.1.1.1, ⟨hk.1.2, ⟨hk.1.1.2.1, hk.1.1.2.2⟩⟩⟩)⟩
                                                have n5_ : Aside0 ((w48.setCell ⟨gb183, 0, none⟩ (.int .i64 (wrap64 (x184000_3 + ((rd_T97 x5_3 x10_4).f0))))).heap[gb183]? = some (.cells #[.int .i64 (wrap64 (x184000_3 + ((rd_T97 x5_3 x10_4).f0))), u184001] 97 (0, 0))) := ⟨by (with_reducible repeat (first | refine blk_drewN ?_ _ | refine blk_drew ?_ | refine blk_alloc ?_ _)); refine blk_put (cs := #[.int .i64 x184000_3, u184001]) ?_ 0 _ rfl; (with_reducible repeat (first | refine blk_drewN ?_ _ | refine blk_drew ?_ | refine blk_alloc ?_ _)); exact BK183.out⟩
                                                have n6_ : Aside0 (Below w.heap.size w (w48.setCell ⟨gb183, 0, none⟩ (.int .i64 (wrap64 (x184000_3 + ((rd_T97 x5_3 x10_4).f0)))))) := ⟨by repeat (first | (with_reducible first | exact HB.out | apply below_alloc | apply pw_below_drewN | apply below_drew1 | refine below_set ?_ GE183.out) | exact HB.out)⟩
                                                (try clear HO_4)
                                                (try clear HO_5)
                                                (try clear HO_44)
                                                (try clear HO_184001)
                                                (try clear HL187_1)
                                                (try clear BK183)
                                                (try clear HB)
                                                generalize (w48.setCell ⟨gb183, 0, none⟩ (.int .i64 (wrap64 (x184000_3 + ((rd_T97 x5_3 x10_4).f0))))) = w50 at n0_ n1_ n2_ n3_ n4_ n5_ n6_ ⊢
                                                have HO_4 := n0_
                                                have HO_5 := n1_
                                                have HO_44 := n2_
                                                have HO_184001 := n3_
                                                have HL187_1 := n4_
                                                have BK183 := n5_
                                                have HB := n6_
                                                clear n0_ n1_ n2_ n3_ n4_ n5_ n6_
                                                have n0_ := Aside0.mk (Kd.R_drew HO_4.out)
                                                have n1_ := Aside0.mk (Kd.N_drew HO_5.out)
                                                have n2_ := Aside0.mk (Kd.N_drew HO_44.out)
                                                have n3_ := Aside0.mk (Kd.R_drew HO_184001.out)
                                                have n4_ := Aside0.mk (Kd.V_drew HL187_1.out)
                                                have n5_ := Aside0.mk (blk_drew BK183.out)
                                                have n6_ := Aside0.mk (below_drew1 HB.out)
                                                clear HO_4
                                                clear HO_5
                                                clear HO_44
                                                clear HO_184001
                                                clear HL187_1
                                                clear BK183
                                                clear HB
                                                have HO_4 := n0_
                                                have HO_5 := n1_
                                                have HO_44 := n2_
                                                have HO_184001 := n3_
                                                have HL187_1 := n4_
                                                have BK183 := n5_
                                                have HB := n6_
                                                clear n0_ n1_ n2_ n3_ n4_ n5_ n6_
                                                have p188 : 0 ≤ (x10_4 : Int) := of_decide_eq_true (by first | (with_reducible assumption) | assumption)
                                                have q188 : x10_4 < (x5_3.length : Int) := of_decide_eq_true (by first | (with_reducible assumption) | assumption)
                                                obtain ⟨ad188, A188_1, c188_1, e188, hx188_0, hx188_1, hl188_1, hi188_1⟩ := at_T97 (Kd.N_reads' HO_5.out).2.2 x10_4 p188 q188
                                                obtain rfl : ad187 = ad188 := (by injection e188)
                                                obtain ⟨ce188, hce188, hMe188, hcc188⟩ := Kd.N_get HO_5.out z97 x10_4 p188 (by first | exact q188 | exact of_decide_eq_true (by first | (with_reducible assumption) | assumption) | (have e_ := (Kd.N_reads' HO_5.out).1; omega))
                                                obtain ⟨ua188_1, uc188_1, rfl, ul188_1, ge188_1⟩ := k97_openF hMe188
                                                have hv188_1 := hcc188 1 _ rfl
                                                rw [add_field _ _ 1 (by omega)] at hv188_1
                                                replace hv188_1 := Option.some.inj (hv188_1.symm.trans hx188_1)
                                                injection hv188_1 with hva_ hvn_ hvc_
                                                rw [hva_] at ge188_1
                                                rw [hvc_] at ul188_1
                                                have HL188_1 := Aside0.mk (show Kd.V (Kd.int .i64) 3 _ w.heap.size _ _ ((rd_T97 x5_3 x10_4).f1) from Kd.V_mk ul188_1 ge188_1)
                                                clear hva_ hvn_ hvc_ ge188_1 ul188_1
                                                clear hcc188 hce188
                                                have HR188_1 := Aside0.mk hi188_1
                                                have HC188_1 := Aside0.mk hl188_1
                                                clear hi188_1 hl188_1
                                                replace p188 := eq_true p188
                                                replace q188 := eq_true q188
                                                refine start_ (n := 10) (S := fun w' => w'.cell? ⟨gb183, 0, none⟩ = some (.int .i64 (wrap64 (x184000_3 + ((rd_T97 x5_3 x10_4).f0)))) ∧ w'.cell? ⟨gb183, 1, none⟩ = some (u184001) ∧ w'.cell? (ad187.add ((x10_4).toNat * 2)) = some (.int .i64 ((rd_T97 x5_3 x10_4).f0)) ∧ w'.cell? ⟨(ad187.add ((x10_4).toNat * 2)).block, (ad187.add ((x10_4).toNat * 2)).off + 1, none⟩ = some (.slice A188_1 ((rd_T97 x5_3 x10_4).f1).length c188_1)) (ds := [7, 9]) #[false, false, false, false, false, false, false, false, false, false] (by kernel_rfl) rfl rfl ⟨(blk_cell BK183.out 0).trans rfl, (blk_cell BK183.out 1).trans rfl, hx188_0, hx188_1⟩ (fun hHeld => ?_); refine with_tabW spec_LengthsOf.tab23 spec_LengthsOf.bits23 (fun HT_ HW_ => ?_)
                                                generalize w50.drew = w51 at HO_4 HO_5 HO_44 HO_184001 HL187_1 BK183 HB HL188_1 HR188_1 hx188_0 hx188_1 hHeld ⊢
                                                refine pure_ (i := 0) (N := some 70) (v := ?_) (a' := ?_) #[true, false, false, false, false, false, false, false, false, false] rfl rfl (any_of HT_.out (by kernel_rfl)) (fun _ _ _ h => h) (Or.inl ⟨by rfl, ?_⟩) ?_ ?_
                                                rotate_left
                                                · intro w'
                                                  go_simp
                                                  with_reducible rfl
                                                rotate_left
                                                · simp only [Act.put, List.setIfInBounds_toArray, List.set_cons_zero, List.set_cons_succ, i64_w, i32_w]
                                                  rfl
                                                refine pure_ (i := 2) (N := some 72) (v := ?_) (a' := ?_) #[true, false, true, false, false, false, false, false, false, false] rfl rfl (any_of HT_.out (by kernel_rfl)) (fun _ _ _ h => h) (Or.inl ⟨by rfl, ?_⟩) ?_ ?_
                                                rotate_left
                                                · intro w'
                                                  go_simp
                                                  with_reducible rfl
                                                rotate_left
                                                · simp only [Act.put, List.setIfInBounds_toArray, List.set_cons_zero, List.set_cons_succ, i64_w, i32_w]
                                                  rfl
                                                refine pure_ (i := 3) (N := some 73) (v := ?_) (a' := ?_) #[true, false, true, true, false, false, false, false, false, false] rfl rfl (any_of HT_.out (by kernel_rfl)) (fun _ _ _ h => h) (Or.inl ⟨by rfl, ?_⟩) ?_ ?_
                                                rotate_left
                                                · intro w'
                                                  go_simp
                                                  with_reducible rfl
                                                rotate_left
                                                · simp only [Act.put, List.setIfInBounds_toArray, List.set_cons_zero, List.set_cons_succ, i64_w, i32_w]
                                                  rfl
                                                refine pure_ (i := 4) (N := some 74) (v := ?_) (a' := ?_) #[true, false, true, true, true, false, false, false, false, false] rfl rfl (any_of HT_.out (by kernel_rfl)) (fun _ _ _ h => h) (Or.inl ⟨by rfl, ?_⟩) ?_ ?_
                                                rotate_left
                                                · intro w'
                                                  go_simp
                                                  with_reducible rfl
                                                rotate_left
                                                · simp only [Act.put, List.setIfInBounds_toArray, List.set_cons_zero, List.set_cons_succ, i64_w, i32_w]
                                                  rfl
                                                refine pure_ (i := 5) (N := some 75) (v := ?_) (a' := ?_) #[true, false, true, true, true, true, false, false, false, false] rfl rfl (any_of HT_.out (by kernel_rfl)) (fun _ _ _ h => h) (Or.inl ⟨by rfl, ?_⟩) ?_ ?_
                                                rotate_left
                                                · intro w'
                                                  go_simp
                                                  with_reducible rfl
                                                rotate_left
                                                · simp only [Act.put, List.setIfInBounds_toArray, List.set_cons_zero, List.set_cons_succ, i64_w, i32_w]
                                                  rfl
                                                refine take_ (i := 1) (N := some 71) (v := ?_) (a' := ?_) #[true, true, true, true, true, true, false, false, false, false] rfl rfl (take_ofW HT_.out HW_.out (by kernel_rfl)) (fun _ _ _ h => h) (Or.inl ⟨by rfl, ?_⟩) hHeld ?_ ?_
                                                rotate_left
                                                · rintro w' ⟨s0, s1, s2, s3⟩
                                                  go_simp
                                                  with_reducible rfl
                                                rotate_left
                                                · simp only [Act.put, List.setIfInBounds_toArray, List.set_cons_zero, List.set_cons_succ, i64_w, i32_w]
                                                  rfl
                                                refine take_ (i := 6) (N := some 76) (v := ?_) (a' := ?_) #[true, true, true, true, true, true, true, false, false, false] rfl rfl (take_ofW HT_.out HW_.out (by kernel_rfl)) (fun _ _ _ h => h) (Or.inl ⟨by rfl, ?_⟩) hHeld ?_ ?_
                                                rotate_left
                                                · rintro w' ⟨s0, s1, s2, s3⟩
                                                  go_simp
                                                  with_reducible rfl
                                                rotate_left
                                                · simp only [Act.put, List.setIfInBounds_toArray, List.set_cons_zero, List.set_cons_succ, i64_w, i32_w]
                                                  rfl
                                                refine last_ (i := 7) (N := some 77) #[true, true, true, true, true, true, true, true, false, false] rfl rfl (one_of HT_.out (by kernel_rfl)) (by decide) (fun K hK => ?_)
                                                refine Kd.R_append_rows_step (Kd.int .i64) (w0 := w) w.heap.size (by rfl) (.tmp 71) (.tmp 76) 23 3 (.int .i64 0) 8 rfl Try.underlying23 info3 rfl (by decide) (by omega) u184001 x184001_3 ((rd_T97 x5_3 x10_4).f1) _ _ _ (fun k_ => some k_ ≠ (v174 : Value).ownBlock) (fun _ => False) rfl rfl ?aO ?aR (fun _ _ h => h) (fun _ h => h.elim) ?aF ?aB ?aS ?aL ?_
                                                (case aR => repeat (first | exact (by repeat (first | (with_reducible exact HR188_1.out) | (with_reducible refine Kd.C_alloc ?_ _) | (with_reducible refine Kd.C_drewN ?_ _) | (with_reducible refine Kd.C_drew ?_) | exact HR188_1.out)) | (with_reducible refine Kd.C_alloc ?_ _) | (with_reducible refine Kd.C_drewN ?_ _) | (with_reducible refine Kd.C_drew ?_)))
                                                (case aB => exact (by repeat (first | (with_reducible first | exact HB.out | apply below_alloc | apply pw_below_drewN | apply below_drew1 | refine below_set ?_ GE183.out) | exact HB.out)))
                                                (case aF => exact (fun k_ hk => Kd.fresh' (Kd.R_lt (by (with_reducible repeat (first | apply Kd.R_alloc | apply Kd.R_drewN | apply Kd.R_drew)); exact HO_4.out)) k_ hk))
                                                (case aO => exact (by (with_reducible repeat (first | apply Kd.R_alloc | apply Kd.R_drewN | apply Kd.R_drew)); exact HO_184001.out))
                                                (case aS => exact (below_size (by repeat (first | (with_reducible first | exact HB.out | apply below_alloc | apply pw_below_drewN | apply below_drew1 | refine below_set ?_ GE183.out) | exact HB.out))))
                                                (case aL => have := LMc40.out; omega)
                                                intro v190 w52 ho hb hg hat
                                                rw [← Ny189.out] at ho
                                                have n0_ := Aside0.mk (Kd.R_after (ok := (fun _ => True)) (by (with_reducible repeat (first | apply Kd.R_alloc | apply Kd.R_drewN | apply Kd.R_drew)); exact Kd.R_mono HO_4.out (fun _ hk => ⟨trivial, hk⟩)) hg hat)
                                                have n1_ := Aside0.mk (Kd.N_afterv (ok := (fun k_ => some k_ ≠ (v174 : Value).ownBlock ∧ k_ ≠ gb183)) (by (with_reducible repeat (first | apply Kd.N_alloc | apply Kd.N_drewN | apply Kd.N_drew)); exact Kd.N_mono HO_5.out (fun _ hk => ⟨⟨hk.1, hk.2.2⟩, hk.2.1⟩)) hg hat)
                                                have n2_ := Aside0.mk (Kd.N_afterv (ok := (fun k_ => some k_ ≠ (v174 : Value).ownBlock ∧ k_ ≠ gb183)) (by (with_reducible repeat (first | apply Kd.N_alloc | apply Kd.N_drewN | apply Kd.N_drew)); exact Kd.N_mono HO_44.out (fun _ hk => ⟨⟨hk.1, hk.2.2⟩, hk.2.1⟩)) hg hat)
                                                have n3_ := Aside0.mk (blk_grown (g := gb183) (o := .cells #[.int .i64 (wrap64 (x184000_3 + ((rd_T97 x5_3 x10_4).f0))), u184001] 97 (0, 0)) (by (with_reducible repeat (first | refine blk_drewN ?_ _ | refine blk_drew ?_ | refine blk_alloc ?_ _)); exact BK183.out) hg (Kd.R_ne HO_184001.out BK183.out (by decide)))
                                                have n4_ := Aside0.mk (Kd.V_afterv (ok := (fun k_ => some k_ ≠ (v174 : Value).ownBlock ∧ some k_ ≠ (.slice (some ad187) x5_3.length co21 : Value).ownBlock ∧ k_ ≠ gb183)) (by (with_reducible repeat (first | apply Kd.V_alloc | apply Kd.V_drewN | apply Kd.V_drew)); exact Kd.V_mono HL187_1.out (fun _ hk => ⟨⟨hk.1, ⟨hk.2.1, hk.2.2.2⟩⟩, hk.2.2.1⟩)) hg hat)
                                                have n5_ := Aside0.mk (Kd.V_afterv (ok := (fun k_ => some k_ ≠ (v174 : Value).ownBlock ∧ some k_ ≠ (.slice (some ad187) x5_3.length co21 : Value).ownBlock ∧ k_ ≠ gb183)) (by (with_reducible repeat (first | apply Kd.V_alloc | apply Kd.V_drewN | apply Kd.V_drew)); exact Kd.V_mono HL188_1.out (fun _ hk => ⟨⟨hk.1.1, ⟨hk.2, hk.1.2.2⟩⟩, hk.1.2.1⟩)) hg hat)
                                                have n6_ := Aside0.mk (hb)
                                                have n7_ := Aside0.mk (ho)
                                                clear HO_4
                                                clear HO_5
                                                clear HO_44
                                                clear BK183
                                                clear HL187_1
                                                clear HL188_1
                                                clear HB
                                                clear HO_184001
                                                have HO_4 := n0_
                                                have HO_5 := n1_
                                                have HO_44 := n2_
                                                have BK183 := n3_
                                                have HL187_1 := n4_
                                                have HL188_1 := n5_
                                                have HB := n6_
                                                have HO191 := n7_
                                                clear n0_ n1_ n2_ n3_ n4_ n5_ n6_ n7_
                                                clear ho hb hg hat
                                                obtain ⟨Ao53, co53, eo53⟩ := Kd.R_slice HO191.out
                                                (first | subst eo53 | (injection eo53 with f1_ f2_ f3_; have f4_ := f1_.symm; have f5_ := f3_.symm; clear f1_ f2_ f3_; subst f4_; subst f5_))
                                                refine hK.out _ _ ?_
                                                clear hK K
                                                refine norm_ (a' := ?_) ?_ ?_
                                                rotate_left
                                                · show Act.put _ (some 77) _ = _
                                                  simp only [Act.put, List.setIfInBounds_toArray, List.set_cons_zero, List.set_cons_succ, i64_w, i32_w]
                                                  rfl
                                                refine pure_ (i := 8) (N := some 78) (v := ?_) (a' := ?_) #[true, true, true, true, true, true, true, true, true, false] rfl rfl (any_of HT_.out (by kernel_rfl)) (fun _ _ _ h => h) (Or.inl ⟨by rfl, ?_⟩) ?_ ?_
                                                rotate_left
                                                · intro w'
                                                  go_simp
                                                  with_reducible rfl
                                                rotate_left
                                                · simp only [Act.put, List.setIfInBounds_toArray, List.set_cons_zero, List.set_cons_succ, i64_w, i32_w]
                                                  rfl
                                                refine last_ (i := 9) (N := none) #[true, true, true, true, true, true, true, true, true, true] rfl rfl (one_of HT_.out (by kernel_rfl)) (by decide) (fun K hK => ?_)
                                                have hs54 : w52.cell? ⟨gb183, 1, none⟩ = some (u184001) := (blk_cell BK183.out 1).trans rfl
                                                have hfs54 := blk_frozen BK183.out 1
                                                refine skip_ (w1 := ?_) (by rfl) rfl ?_ ?_
                                                rotate_left
                                                · go_simp
                                                  rfl
                                                refine hK.out _ _ ?_
                                                clear hK K
                                                refine done_ (done_of HT_.out (by kernel_rfl)) ?_
                                                try go_wp2
                                                have n0_ : Aside0 (Kd.R (Kd.int .i64) 3 (w52.setCell ⟨gb183, 1, none⟩ (.slice Ao53 y189.length co53)) w.heap.size (fun k_ => some k_ ≠ (.slice Ao53 y189.length co53 : Value).ownBlock) v174 x4_2) := ⟨by (with_reducible repeat (first | apply Kd.R_alloc | apply Kd.R_drewN | apply Kd.R_drew)); exact Kd.R_mono (Kd.R_far (p := ⟨gb183, 1, none⟩) (Kd.R_types HO_4.out BK183.out (by decide)) (fun _ hk => hk.2) (.slice Ao53 y189.length co53)) (fun _ hk => hk.1.2)⟩
                                                have n1_ : Aside0 (Kd.N k97 97 (w52.setCell ⟨gb183, 1, none⟩ (.slice Ao53 y189.length co53)) w.heap.size (fun k_ => some k_ ≠ (v174 : Value).ownBlock ∧ some k_ ≠ (.slice Ao53 y189.length co53 : Value).ownBlock ∧ k_ ≠ gb183) (.slice (some ad187) x5_3.length co21) x5_3) := ⟨by (with_reducible repeat (first | apply Kd.N_alloc | apply Kd.N_drewN | apply Kd.N_drew)); exact Kd.N_mono (Kd.N_far (p := ⟨gb183, 1, none⟩) (Kd.N_mono HO_5.out (fun k_ hk => (⟨hk, hk.1.2⟩ : _ ∧ k_ ≠ gb183))) (fun _ hk => hk.2) (.slice Ao53 y189.length co53)) (fun _ hk => ⟨hk.1.1.1, ⟨hk.1.2, hk.1.1.2⟩⟩)⟩
                                                have n2_ : Aside0 (Kd.N k97 97 (w52.setCell ⟨gb183, 1, none⟩ (.slice Ao53 y189.length co53)) w.heap.size (fun k_ => some k_ ≠ (v174 : Value).ownBlock ∧ some k_ ≠ (.slice Ao53 y189.length co53 : Value).ownBlock ∧ k_ ≠ gb183) (.slice (some ad187) x5_3.length co21) x5_3) := ⟨by (with_reducible repeat (first | apply Kd.N_alloc | apply Kd.N_drewN | apply Kd.N_drew)); exact Kd.N_mono (Kd.N_far (p := ⟨gb183, 1, none⟩) (Kd.N_mono HO_44.out (fun k_ hk => (⟨hk, hk.1.2⟩ : _ ∧ k_ ≠ gb183))) (fun _ hk => hk.2) (.slice Ao53 y189.length co53)) (fun _ hk => ⟨hk.1.1.1, ⟨hk.1.2, hk.1.1.2⟩⟩)⟩
                                                have n3_ : Aside0 (Kd.V (Kd.int .i64) 3 (w52.setCell ⟨gb183, 1, none⟩ (.slice Ao53 y189.length co53)) w.heap.size (fun k_ => some k_ ≠ (v174 : Value).ownBlock ∧ some k_ ≠ (.slice (some ad187) x5_3.length co21 : Value).ownBlock ∧ some k_ ≠ (.slice Ao53 y189.length co53 : Value).ownBlock ∧ k_ ≠ gb183) (.slice A187_1 ((rd_T97 x5_3 x10_4).f1).length c187_1) ((rd_T97 x5_3 x10_4).f1)) := ⟨by (with_reducible repeat (first | apply Kd.V_alloc | apply Kd.V_drewN | apply Kd.V_drew)); exact Kd.V_mono (Kd.V_far (p := ⟨gb183, 1, none⟩) (Kd.V_mono HL187_1.out (fun k_ hk => (⟨hk, hk.1.2.2⟩ : _ ∧ k_ ≠ gb183))) (fun _ hk => hk.2) (.slice Ao53 y189.length co53)) (fun _ hk => ⟨hk.1.1.1, ⟨hk.1.1.2.1, ⟨hk.1.2, hk.1.1.2.2⟩⟩⟩)⟩
                                                have n4_ : Aside0 (Kd.V (Kd.int .i64) 3 (w52.setCell ⟨gb183, 1, none⟩ (.slice Ao53 y189.length co53)) w.heap.size (fun k_ => some k_ ≠ (v174 : Value).ownBlock ∧ some k_ ≠ (.slice (some ad187) x5_3.length co21 : Value).ownBlock ∧ some k_ ≠ (.slice Ao53 y189.length co53 : Value).ownBlock ∧ k_ ≠ gb183) (.slice A188_1 ((rd_T97 x5_3 x10_4).f1).length c188_1) ((rd_T97 x5_3 x10_4).f1)) := ⟨by (with_reducible repeat (first | apply Kd.V_alloc | apply Kd.V_drewN | apply Kd.V_drew)); exact Kd.V_mono (Kd.V_far (p := ⟨gb183, 1, none⟩) (Kd.V_mono HL188_1.out (fun k_ hk => (⟨hk, hk.1.2.2⟩ : _ ∧ k_ ≠ gb183))) (fun _ hk => hk.2) (.slice Ao53 y189.length co53)) (fun _ hk => ⟨hk.1.1.1, ⟨hk.1.1.2.1, ⟨hk.1.2, hk.1.1.2.2⟩⟩⟩)⟩
                                                have n5_ : Aside0 (Kd.R (Kd.int .i64) 3 (w52.setCell ⟨gb183, 1, none⟩ (.slice Ao53 y189.length co53)) w.heap.size (fun k_ => some k_ ≠ (v174 : Value).ownBlock) (.slice Ao53 y189.length co53) y189) := ⟨by (with_reducible repeat (first | apply Kd.R_alloc | apply Kd.R_drewN | apply Kd.R_drew)); exact Kd.R_mono (Kd.R_far (p := ⟨gb183, 1, none⟩) (Kd.R_types HO191.out BK183.out (by decide)) (fun _ hk => hk.2) (.slice Ao53 y189.length co53)) (fun _ hk => hk.1)⟩
                                                have n6_ : Aside0 ((w52.setCell ⟨gb183, 1, none⟩ (.slice Ao53 y189.length co53)).heap[gb183]? = some (.cells #[.int .i64 (wrap64 (x184000_3 + ((rd_T97 x5_3 x10_4).f0))), .slice Ao53 y189.length co53] 97 (0, 0))) := ⟨by (with_reducible repeat (first | refine blk_drewN ?_ _ | refine blk_drew ?_ | refine blk_alloc ?_ _)); refine blk_put (cs := #[.int .i64 (wrap64 (x184000_3 + ((rd_T97 x5_3 x10_4).f0))), u184001]) ?_ 1 _ rfl; (with_reducible repeat (first | refine blk_drewN ?_ _ | refine blk_drew ?_ | refine blk_alloc ?_ _)); exact BK183.out⟩
                                                have n7_ : Aside0 (Below w.heap.size w (w52.setCell ⟨gb183, 1, none⟩ (.slice Ao53 y189.length co53))) := ⟨by repeat (first | (with_reducible first | exact HB.out | apply below_alloc | apply pw_below_drewN | apply below_drew1 | refine below_set ?_ GE183.out) | exact HB.out)⟩
                                                (try clear HO_4)
                                                (try clear HO_5)
                                                (try clear HO_44)
                                                (try clear HL187_1)
                                                (try clear HL188_1)
                                                (try clear HO191)
                                                (try clear BK183)
                                                (try clear HB)
                                                generalize (w52.setCell ⟨gb183, 1, none⟩ (.slice Ao53 y189.length co53)) = w55 at n0_ n1_ n2_ n3_ n4_ n5_ n6_ n7_ ⊢
                                                have HO_4 := n0_
                                                have HO_5 := n1_
                                                have HO_44 := n2_
                                                have HL187_1 := n3_
                                                have HL188_1 := n4_
                                                have HO191 := n5_
                                                have BK183 := n6_
                                                have HB := n7_
                                                clear n0_ n1_ n2_ n3_ n4_ n5_ n6_ n7_
                                                have n0_ := Aside0.mk (Kd.R_drew HO_4.out)
                                                have n1_ := Aside0.mk (Kd.N_drew HO_5.out)
                                                have n2_ := Aside0.mk (Kd.N_drew HO_44.out)
                                                have n3_ := Aside0.mk (Kd.V_drew HL187_1.out)
                                                have n4_ := Aside0.mk (Kd.V_drew HL188_1.out)
                                                have n5_ := Aside0.mk (Kd.R_drew HO191.out)
                                                have n6_ := Aside0.mk (blk_drew BK183.out)
                                                have n7_ := Aside0.mk (below_drew1 HB.out)
                                                clear HO_4
                                                clear HO_5
                                                clear HO_44
                                                clear HL187_1
                                                clear HL188_1
                                                clear HO191
                                                clear BK183
                                                clear HB
                                                have HO_4 := n0_
                                                have HO_5 := n1_
                                                have HO_44 := n2_
                                                have HL187_1 := n3_
                                                have HL188_1 := n4_
                                                have HO191 := n5_
                                                have BK183 := n6_
                                                have HB := n7_
                                                clear n0_ n1_ n2_ n3_ n4_ n5_ n6_ n7_
                                                have q57 : (x10_4 : Int) ≤ ((x5_3.length : Int) : Int) := of_decide_eq_true (by first | (with_reducible assumption) | assumption)
                                                obtain ⟨i057, hi057, _, hsz57, _⟩ := info_parts info97
                                                have hroom57 : x5_3.length ≤ co21 := (Kd.N_reads' HO_5.out).2.1
                                                have hC57 : Kd.F k97 _ _ (some ad187) x5_3.length x5_3 := (Kd.V_at (base := w.heap.size) (Kd.N_V HO_5.out)).2.2
                                                have hcut57 := cut_to (P := Try.prog) 95 97 .i64 Try.underlying95 hi057 (some ad187) x5_3.length co21 x10_4 (of_decide_eq_true (by first | (with_reducible assumption) | assumption)) q57 hroom57
                                                have hr57 := Kd.F_take (m := (x10_4 : Int).toNat) hC57 (by omega)
                                                have hy57 : y195.length = (x10_4 : Int).toNat := (by rw [Ny195.out, List.length_take]; omega)
                                                rw [← Ny195.out] at hr57
                                                rw [← hy57] at hcut57
                                                have HO199 := Aside0.mk (show Kd.V k97 97 _ w.heap.size _ (.slice (some ad187) y195.length co21) y195 from Kd.V_mk (by omega) hr57)
                                                have HC199 := Aside0.mk (show y195.length ≤ co21 from by omega)
                                                clear hr57 hC57 hroom57 hi057 hsz57
                                                have KY57 := Aside0.mk hy57
                                                clear hy57
                                                replace q57 := eq_true q57
                                                have q58 : ((ji44) : Int) ≤ ((x5_3.length : Int) : Int) := of_decide_eq_true (by first | (with_reducible assumption) | assumption)
                                                obtain ⟨i058, hi058, _, hsz58, _⟩ := info_parts info97
                                                have hroom58 : x5_3.length ≤ co21 := (Kd.N_reads' HO_5.out).2.1
                                                have hC58 : Kd.F k97 _ _ (some ad187) x5_3.length x5_3 := (Kd.V_at (base := w.heap.size) (Kd.N_V HO_5.out)).2.2
                                                have q058 : (0 : Int) ≤ ((ji44) : Int) := of_decide_eq_true (by first | (with_reducible assumption) | assumption)
                                                have hcut58 := cut_from (P := Try.prog) 95 97 .i64 Try.underlying95 hi058 2 hsz58 (some ad187) x5_3.length co21 (ji44) q058 q58
                                                have hr58 := Kd.F_cut (m := ((ji44) : Int).toNat) (c := co21) hC58 (by omega) hroom58
                                                obtain ⟨A58, hA58⟩ : ∃ A1, A1 = (if co21 = ((ji44) : Int).toNat then (some ad187) else ((some ad187) : Option Addr).map (·.add (((ji44) : Int).toNat * 2))) := ⟨_, rfl⟩
                                                obtain ⟨c58, hc58⟩ : ∃ c1, c1 = co21 - ((ji44) : Int).toNat := ⟨_, rfl⟩
                                                have hy58 : y203.length = x5_3.length - ((ji44) : Int).toNat := (by rw [Ny203.out, List.length_drop] <;> omega)
                                                rw [show (x5_3).drop ((ji44) : Int).toNat = y203 from Ny203.out.symm] at hr58
                                                replace hr58 : Kd.F k97 _ _ A58 y203.length y203 := (by rw [hA58]; exact hr58)
                                                rw [← hy58, ← hA58, ← hc58] at hcut58
                                                have HO207 := Aside0.mk (show Kd.V k97 97 _ w.heap.size _ (.slice A58 y203.length c58) y203 from Kd.V_mk (by rw [hy58, hc58]; exact Nat.sub_le_sub_right hroom58 _) hr58)
                                                have HC207 := Aside0.mk (show y203.length ≤ c58 from by rw [hy58, hc58]; exact Nat.sub_le_sub_right hroom58 _)
                                                clear hr58 hC58 hroom58 hi058 hsz58 hc58
                                                have KY58 := Aside0.mk hy58
                                                have KA58 := Aside0.mk hA58
                                                clear hy58 hA58
                                                replace q58 := eq_true q58
                                                refine start_ (n := 11) (S := fun w' => True) (ds := []) #[false, false, false, false, false, false, false, false, false, false, false] (by kernel_rfl) rfl rfl trivial (fun hHeld => ?_); refine with_tabW spec_LengthsOf.tab24 spec_LengthsOf.bits24 (fun HT_ HW_ => ?_)
                                                generalize w55.drew = w56 at HO_4 HO_5 HO_44 HL187_1 HL188_1 HO191 BK183 HB HO199 HO207 hHeld ⊢
                                                refine pure_ (i := 1) (N := some 80) (v := ?_) (a' := ?_) #[false, true, false, false, false, false, false, false, false, false, false] rfl rfl (any_of HT_.out (by kernel_rfl)) (fun _ _ _ h => h) (Or.inl ⟨by rfl, ?_⟩) ?_ ?_
                                                rotate_left
                                                · intro w'
                                                  go_simp
                                                  with_reducible rfl
                                                rotate_left
                                                · simp only [Act.put, List.setIfInBounds_toArray, List.set_cons_zero, List.set_cons_succ, i64_w, i32_w]
                                                  rfl
                                                refine pure_ (i := 2) (N := some 81) (v := ?_) (a' := ?_) #[false, true, true, false, false, false, false, false, false, false, false] rfl rfl (any_of HT_.out (by kernel_rfl)) (fun _ _ _ h => h) (Or.inl ⟨by rfl, ?_⟩) ?_ ?_
                                                rotate_left
                                                · intro w'
                                                  go_simp
                                                  with_reducible rfl
                                                rotate_left
                                                · simp only [Act.put, List.setIfInBounds_toArray, List.set_cons_zero, List.set_cons_succ, i64_w, i32_w]
                                                  rfl
                                                refine pure_ (i := 3) (N := some 82) (v := ?_) (a' := ?_) #[false, true, true, true, false, false, false, false, false, false, false] rfl rfl (any_of HT_.out (by kernel_rfl)) (fun _ _ _ h => h) (Or.inl ⟨by rfl, ?_⟩) ?_ ?_
                                                rotate_left
                                                · intro w'
                                                  go_simp
                                                  with_reducible rfl
                                                rotate_left
                                                · simp only [Act.put, List.setIfInBounds_toArray, List.set_cons_zero, List.set_cons_succ, i64_w, i32_w]
                                                  rfl
                                                refine pure_ (i := 5) (N := some 84) (v := ?_) (a' := ?_) #[false, true, true, true, false, true, false, false, false, false, false] rfl rfl (any_of HT_.out (by kernel_rfl)) (fun _ _ _ h => h) (Or.inl ⟨by rfl, ?_⟩) ?_ ?_
                                                rotate_left
                                                · intro w'
                                                  go_simp
                                                  with_reducible rfl
                                                rotate_left
                                                · simp only [Act.put, List.setIfInBounds_toArray, List.set_cons_zero, List.set_cons_succ, i64_w, i32_w]
                                                  rfl
                                                refine pure_ (i := 6) (N := some 85) (v := ?_) (a' := ?_) #[false, true, true, true, false, true, true, false, false, false, false] rfl rfl (any_of HT_.out (by kernel_rfl)) (fun _ _ _ h => h) (Or.inl ⟨by rfl, ?_⟩) ?_ ?_
                                                rotate_left
                                                · intro w'
                                                  go_simp
                                                  with_reducible rfl
                                                rotate_left
                                                · simp only [Act.put, List.setIfInBounds_toArray, List.set_cons_zero, List.set_cons_succ, i64_w, i32_w]
                                                  rfl
                                                refine pure_ (i := 7) (N := some 86) (v := ?_) (a' := ?_) #[false, true, true, true, false, true, true, true, false, false, false] rfl rfl (any_of HT_.out (by kernel_rfl)) (fun _ _ _ h => h) (Or.inl ⟨by rfl, ?_⟩) ?_ ?_
                                                rotate_left
                                                · intro w'
                                                  go_simp
                                                  with_reducible rfl
                                                rotate_left
                                                · simp only [Act.put, List.setIfInBounds_toArray, List.set_cons_zero, List.set_cons_succ, i64_w, i32_w]
                                                  rfl
                                                refine pure_ (i := 8) (N := some 87) (v := ?_) (a' := ?_) #[false, true, true, true, false, true, true, true, true, false, false] rfl rfl (any_of HT_.out (by kernel_rfl)) (fun _ _ _ h => h) (Or.inl ⟨by rfl, ?_⟩) ?_ ?_
                                                rotate_left
                                                · intro w'
                                                  go_simp
                                                  with_reducible rfl
                                                rotate_left
                                                · simp only [Act.put, List.setIfInBounds_toArray, List.set_cons_zero, List.set_cons_succ, i64_w, i32_w]
                                                  rfl
                                                refine one_ (i := 0) (N := some 79) #[true, true, true, true, false, true, true, true, true, false, false] rfl rfl (one_of HT_.out (by kernel_rfl)) (by decide) (fun K hK => ?_)
                                                refine Kd.N_lit_step k97 _ 97 ?hg (N' := 79) ?hd (xs := ([] : List (S97))) (inner := []) (ok := (fun k_ => some k_ ≠ (v174 : Value).ownBlock ∧ some k_ ≠ (.slice (some ad187) x5_3.length co21 : Value).ownBlock ∧ some k_ ≠ (.slice (some ad187) x5_3.length co21 : Value).ownBlock ∧ some k_ ≠ (.slice Ao53 y189.length co53 : Value).ownBlock ∧ k_ ≠ gb183)) (okp := (fun k_ => some k_ ≠ (v174 : Value).ownBlock ∧ some k_ ≠ (.slice (some ad187) x5_3.length co21 : Value).ownBlock ∧ some k_ ≠ (.slice (some ad187) x5_3.length co21 : Value).ownBlock ∧ some k_ ≠ (.slice Ao53 y189.length co53 : Value).ownBlock ∧ k_ ≠ gb183)) ?hr ?hp (fun _ hk => hk) ((show ∀ k_, w56.heap.size ≤ k_ → (fun k_ => some k_ ≠ (v174 : Value).ownBlock ∧ some k_ ≠ (.slice (some ad187) x5_3.length co21 : Value).ownBlock ∧ some k_ ≠ (.slice (some ad187) x5_3.length co21 : Value).ownBlock ∧ some k_ ≠ (.slice Ao53 y189.length co53 : Value).ownBlock ∧ k_ ≠ gb183) k_ from fun k_ hk => ⟨Kd.fresh' (Kd.R_lt (by (with_reducible repeat (first | apply Kd.R_alloc | apply Kd.R_drewN | apply Kd.R_drew)); exact HO_4.out)) k_ hk, Kd.fresh' (Kd.N_lt (by (with_reducible repeat (first | apply Kd.N_alloc | apply Kd.N_drewN | apply Kd.N_drew)); exact HO_5.out)) k_ hk, Kd.fresh' (Kd.N_lt (by (with_reducible repeat (first | apply Kd.N_alloc | apply Kd.N_drewN | apply Kd.N_drew)); exact HO_44.out)) k_ hk, Kd.fresh' (Kd.R_lt (by (with_reducible repeat (first | apply Kd.R_alloc | apply Kd.R_drewN | apply Kd.R_drew)); exact HO191.out)) k_ hk, Kd.freshB (g := gb183) (o := .cells #[.int .i64 (wrap64 (x184000_3 + ((rd_T97 x5_3 x10_4).f0))), .slice Ao53 y189.length co53] 97 (0, 0)) (by (with_reducible repeat (first | refine blk_drewN ?_ _ | refine blk_drew ?_ | refine blk_alloc ?_ _)); exact BK183.out) k_ hk⟩) _ (Nat.le_refl _)) (Below.refl _ _) (Nat.le_refl _) (by simp) ?_; (case hd => rfl); (case hg => rfl); (case hr => first | (go_simp; done) | (go_simp; rfl)); (case hp => exact (Reps.none _ _))
                                                intro v193 w59 ho60 hb hg_ hnew_
                                                clear hg_ hnew_
                                                (first | rw [← Ny192.out] at ho60 | (simp only [Int.reduceToNat] at ho60; rw [← Ny192.out] at ho60))
                                                have n0_ := Aside0.mk (Kd.R_below (by (with_reducible repeat (first | apply Kd.R_alloc | apply Kd.R_drewN | apply Kd.R_drew)); exact HO_4.out) hb)
                                                have n1_ := Aside0.mk (Kd.N_elder' (by (with_reducible repeat (first | apply Kd.N_alloc | apply Kd.N_drewN | apply Kd.N_drew)); exact HO_5.out) (Kd.N_base ho60) hb)
                                                have n2_ := Aside0.mk (Kd.N_elder' (by (with_reducible repeat (first | apply Kd.N_alloc | apply Kd.N_drewN | apply Kd.N_drew)); exact HO_44.out) (Kd.N_base ho60) hb)
                                                have n3_ := Aside0.mk (Kd.V_elder' (by (with_reducible repeat (first | apply Kd.V_alloc | apply Kd.V_drewN | apply Kd.V_drew)); exact HL187_1.out) (Kd.N_base ho60) hb)
                                                have n4_ := Aside0.mk (Kd.V_elder' (by (with_reducible repeat (first | apply Kd.V_alloc | apply Kd.V_drewN | apply Kd.V_drew)); exact HL188_1.out) (Kd.N_base ho60) hb)
                                                have n5_ := Aside0.mk (Kd.R_below (by (with_reducible repeat (first | apply Kd.R_alloc | apply Kd.R_drewN | apply Kd.R_drew)); exact HO191.out) hb)
                                                have n6_ := Aside0.mk (Kd.V_elder' (by (with_reducible repeat (first | apply Kd.V_alloc | apply Kd.V_drewN | apply Kd.V_drew)); exact HO199.out) (Kd.N_base ho60) hb)
                                                have n7_ := Aside0.mk (Kd.V_elder' (by (with_reducible repeat (first | apply Kd.V_alloc | apply Kd.V_drewN | apply Kd.V_drew)); exact HO207.out) (Kd.N_base ho60) hb)
                                                have n8_ := Aside0.mk (Kd.N_lower ho60 (below_size (by repeat (first | (with_reducible first | exact HB.out | apply below_alloc | apply pw_below_drewN | apply below_drew1 | refine below_set ?_ GE183.out) | exact HB.out))))
                                                have n9_ := Aside0.mk (blk_below (g := gb183) (o := .cells #[.int .i64 (wrap64 (x184000_3 + ((rd_T97 x5_3 x10_4).f0))), .slice Ao53 y189.length co53] 97 (0, 0)) (by (with_reducible repeat (first | refine blk_drewN ?_ _ | refine blk_drew ?_ | refine blk_alloc ?_ _)); exact BK183.out) hb)
                                                have n10_ := Aside0.mk (below_step (by repeat (first | (with_reducible first | exact HB.out | apply below_alloc | apply pw_below_drewN | apply below_drew1 | refine below_set ?_ GE183.out) | exact HB.out)) hb)
                                                clear HO_4
                                                clear HO_5
                                                clear HO_44
                                                clear HL187_1
                                                clear HL188_1
                                                clear HO191
                                                clear HO199
                                                clear HO207
                                                clear BK183
                                                clear HB
                                                have HO_4 := n0_
                                                have HO_5 := n1_
                                                have HO_44 := n2_
                                                have HL187_1 := n3_
                                                have HL188_1 := n4_
                                                have HO191 := n5_
                                                have HO199 := n6_
                                                have HO207 := n7_
                                                have HO194 := n8_
                                                have BK183 := n9_
                                                have HB := n10_
                                                clear n0_ n1_ n2_ n3_ n4_ n5_ n6_ n7_ n8_ n9_ n10_
                                                clear hb ho60
                                                refine hK.out _ _ trivial (fun hHeld => ?_)
                                                clear hK K
                                                refine norm_ (a' := ?_) ?_ ?_
                                                rotate_left
                                                · show Act.put _ (some 79) _ = _
                                                  simp only [Act.put, List.setIfInBounds_toArray, List.set_cons_zero, List.set_cons_succ, i64_w, i32_w]
                                                  rfl
                                                refine one_ (i := 4) (N := some 83) #[true, true, true, true, true, true, true, true, true, false, false] rfl rfl (one_of HT_.out (by kernel_rfl)) (by decide) (fun K hK => ?_)
                                                refine Kd.N_append_rows_step k97 (w0 := w) w.heap.size (by rfl) (.tmp 79) (.tmp 82) 95 97 (.agg #[(.int .i64 0), (.slice none 0 0)]) 32 rfl Try.underlying95 info97 rfl (by decide) (by omega) v193 y192 y195 _ _ _ (fun k_ => some k_ ≠ (v174 : Value).ownBlock ∧ some k_ ≠ (.slice Ao53 y189.length co53 : Value).ownBlock ∧ k_ ≠ gb183) (fun k_ => ((fun k_ => some k_ ≠ (v174 : Value).ownBlock ∧ some k_ ≠ (.slice Ao53 y189.length co53 : Value).ownBlock ∧ k_ ≠ gb183)) k_ ∧ some k_ ≠ (v193 : Value).ownBlock) rfl rfl ?aO ?aR (fun _ hk => hk) ?aF ?aB ?aS ?aL ?_
                                                (case aR => exact (by skip; exact Kd.V_F (Kd.V_mono (ok' := (fun k_ => ((fun k_ => some k_ ≠ (v174 : Value).ownBlock ∧ some k_ ≠ (.slice Ao53 y189.length co53 : Value).ownBlock ∧ k_ ≠ gb183)) k_ ∧ some k_ ≠ (v193 : Value).ownBlock)) (HO199.out) (fun k_ hk => ⟨⟨hk.1.1, ⟨hk.1.2.1, hk.1.2.2⟩⟩, hk.2⟩))))
                                                (case aB => exact (by repeat (first | (with_reducible first | exact HB.out | apply below_alloc | apply pw_below_drewN | apply below_drew1 | refine below_set ?_ GE183.out) | exact HB.out)))
                                                (case aF => exact (fun k_ hk => ⟨Kd.fresh' (Kd.R_lt (by (with_reducible repeat (first | apply Kd.R_alloc | apply Kd.R_drewN | apply Kd.R_drew)); exact HO_4.out)) k_ hk, Kd.fresh' (Kd.R_lt (by (with_reducible repeat (first | apply Kd.R_alloc | apply Kd.R_drewN | apply Kd.R_drew)); exact HO191.out)) k_ hk, Kd.freshB (g := gb183) (o := .cells #[.int .i64 (wrap64 (x184000_3 + ((rd_T97 x5_3 x10_4).f0))), .slice Ao53 y189.length co53] 97 (0, 0)) (by (with_reducible repeat (first | refine blk_drewN ?_ _ | refine blk_drew ?_ | refine blk_alloc ?_ _)); exact BK183.out) k_ hk⟩))
                                                (case aO => exact (by (with_reducible repeat (first | apply Kd.N_alloc | apply Kd.N_drewN | apply Kd.N_drew)); exact Kd.N_mono HO194.out (fun _ hk => ⟨hk.1, ⟨hk.2.2.2.1, hk.2.2.2.2⟩⟩)))
                                                (case aS => exact (below_size (by repeat (first | (with_reducible first | exact HB.out | apply below_alloc | apply pw_below_drewN | apply below_drew1 | refine below_set ?_ GE183.out) | exact HB.out))))
                                                (case aL => have := LMc43.out; omega)
                                                intro v201 w61 ho hb hg hat
                                                rw [← Ny200.out] at ho
                                                have n0_ := Aside0.mk (Kd.R_over' (by (with_reducible repeat (first | apply Kd.R_alloc | apply Kd.R_drewN | apply Kd.R_drew)); exact HO_4.out) (Kd.N_typed (by (with_reducible repeat (first | apply Kd.N_alloc | apply Kd.N_drewN | apply Kd.N_drew)); exact HO194.out)) (by decide) hg)
                                                have n1_ := Aside0.mk (Kd.N_afterv (ok := (fun k_ => some k_ ≠ (v174 : Value).ownBlock ∧ some k_ ≠ (.slice Ao53 y189.length co53 : Value).ownBlock ∧ k_ ≠ gb183)) (by (with_reducible repeat (first | apply Kd.N_alloc | apply Kd.N_drewN | apply Kd.N_drew)); exact HO_5.out) hg hat)
                                                have n2_ := Aside0.mk (Kd.N_afterv (ok := (fun k_ => some k_ ≠ (v174 : Value).ownBlock ∧ some k_ ≠ (.slice Ao53 y189.length co53 : Value).ownBlock ∧ k_ ≠ gb183)) (by (with_reducible repeat (first | apply Kd.N_alloc | apply Kd.N_drewN | apply Kd.N_drew)); exact HO_44.out) hg hat)
                                                have n3_ := Aside0.mk (blk_grown (g := gb183) (o := .cells #[.int .i64 (wrap64 (x184000_3 + ((rd_T97 x5_3 x10_4).f0))), .slice Ao53 y189.length co53] 97 (0, 0)) (by (with_reducible repeat (first | refine blk_drewN ?_ _ | refine blk_drew ?_ | refine blk_alloc ?_ _)); exact BK183.out) hg (Kd.N_away HO194.out (fun _ hk => hk.2.2.2.2)))
                                                have n4_ := Aside0.mk (Kd.V_afterv (ok := (fun k_ => some k_ ≠ (v174 : Value).ownBlock ∧ some k_ ≠ (.slice (some ad187) x5_3.length co21 : Value).ownBlock ∧ some k_ ≠ (.slice Ao53 y189.length co53 : Value).ownBlock ∧ k_ ≠ gb183)) (by (with_reducible repeat (first | apply Kd.V_alloc | apply Kd.V_drewN | apply Kd.V_drew)); exact HL187_1.out) hg hat)
                                                have n5_ := Aside0.mk (Kd.V_afterv (ok := (fun k_ => some k_ ≠ (v174 : Value).ownBlock ∧ some k_ ≠ (.slice (some ad187) x5_3.length co21 : Value).ownBlock ∧ some k_ ≠ (.slice Ao53 y189.length co53 : Value).ownBlock ∧ k_ ≠ gb183)) (by (with_reducible repeat (first | apply Kd.V_alloc | apply Kd.V_drewN | apply Kd.V_drew)); exact HL188_1.out) hg hat)
                                                have n6_ := Aside0.mk (Kd.R_over' (by (with_reducible repeat (first | apply Kd.R_alloc | apply Kd.R_drewN | apply Kd.R_drew)); exact HO191.out) (Kd.N_typed (by (with_reducible repeat (first | apply Kd.N_alloc | apply Kd.N_drewN | apply Kd.N_drew)); exact HO194.out)) (by decide) hg)
                                                have n7_ := Aside0.mk (Kd.V_afterv (ok := (fun k_ => some k_ ≠ (v174 : Value).ownBlock ∧ some k_ ≠ (.slice Ao53 y189.length co53 : Value).ownBlock ∧ k_ ≠ gb183)) (by (with_reducible repeat (first | apply Kd.V_alloc | apply Kd.V_drewN | apply Kd.V_drew)); exact HO199.out) hg hat)
                                                have n8_ := Aside0.mk (Kd.V_afterv (ok := (fun k_ => some k_ ≠ (v174 : Value).ownBlock ∧ some k_ ≠ (.slice Ao53 y189.length co53 : Value).ownBlock ∧ k_ ≠ gb183)) (by (with_reducible repeat (first | apply Kd.V_alloc | apply Kd.V_drewN | apply Kd.V_drew)); exact HO207.out) hg hat)
                                                have n9_ := Aside0.mk (hb)
                                                have n10_ := Aside0.mk (ho)
                                                clear HO_4
                                                clear HO_5
                                                clear HO_44
                                                clear BK183
                                                clear HL187_1
                                                clear HL188_1
                                                clear HO191
                                                clear HO199
                                                clear HO207
                                                clear HB
                                                clear HO194
                                                have HO_4 := n0_
                                                have HO_5 := n1_
                                                have HO_44 := n2_
                                                have BK183 := n3_
                                                have HL187_1 := n4_
                                                have HL188_1 := n5_
                                                have HO191 := n6_
                                                have HO199 := n7_
                                                have HO207 := n8_
                                                have HB := n9_
                                                have HO202 := n10_
                                                clear n0_ n1_ n2_ n3_ n4_ n5_ n6_ n7_ n8_ n9_ n10_
                                                clear ho hb hg hat
                                                refine hK.out _ _ trivial (fun hHeld => ?_)
                                                clear hK K
                                                refine norm_ (a' := ?_) ?_ ?_
                                                rotate_left
                                                · show Act.put _ (some 83) _ = _
                                                  simp only [Act.put, List.setIfInBounds_toArray, List.set_cons_zero, List.set_cons_succ, i64_w, i32_w]
                                                  rfl
                                                refine one_ (i := 9) (N := some 88) #[true, true, true, true, true, true, true, true, true, true, false] rfl rfl (one_of HT_.out (by kernel_rfl)) (by decide) (fun K hK => ?_)
                                                refine Kd.N_append_rows_step k97 (w0 := w) w.heap.size (by rfl) (.tmp 83) (.tmp 87) 95 97 (.agg #[(.int .i64 0), (.slice none 0 0)]) 32 rfl Try.underlying95 info97 rfl (by decide) (by omega) v201 y200 y203 _ _ _ (fun k_ => some k_ ≠ (v174 : Value).ownBlock ∧ some k_ ≠ (.slice Ao53 y189.length co53 : Value).ownBlock ∧ k_ ≠ gb183) (fun k_ => ((fun k_ => some k_ ≠ (v174 : Value).ownBlock ∧ some k_ ≠ (.slice Ao53 y189.length co53 : Value).ownBlock ∧ k_ ≠ gb183)) k_ ∧ some k_ ≠ (v201 : Value).ownBlock) rfl rfl ?aO ?aR (fun _ hk => hk) ?aF ?aB ?aS ?aL ?_
                                                (case aR => exact (by skip; exact Kd.V_F (Kd.V_mono (ok' := (fun k_ => ((fun k_ => some k_ ≠ (v174 : Value).ownBlock ∧ some k_ ≠ (.slice Ao53 y189.length co53 : Value).ownBlock ∧ k_ ≠ gb183)) k_ ∧ some k_ ≠ (v201 : Value).ownBlock)) (HO207.out) (fun k_ hk => ⟨⟨hk.1.1, ⟨hk.1.2.1, hk.1.2.2⟩⟩, hk.2⟩))))
                                                (case aB => exact (by repeat (first | (with_reducible first | exact HB.out | apply below_alloc | apply pw_below_drewN | apply below_drew1 | refine below_set ?_ GE183.out) | exact HB.out)))
                                                (case aF => exact (fun k_ hk => ⟨Kd.fresh' (Kd.R_lt (by (with_reducible repeat (first | apply Kd.R_alloc | apply Kd.R_drewN | apply Kd.R_drew)); exact HO_4.out)) k_ hk, Kd.fresh' (Kd.R_lt (by (with_reducible repeat (first | apply Kd.R_alloc | apply Kd.R_drewN | apply Kd.R_drew)); exact HO191.out)) k_ hk, Kd.freshB (g := gb183) (o := .cells #[.int .i64 (wrap64 (x184000_3 + ((rd_T97 x5_3 x10_4).f0))), .slice Ao53 y189.length co53] 97 (0, 0)) (by (with_reducible repeat (first | refine blk_drewN ?_ _ | refine blk_drew ?_ | refine blk_alloc ?_ _)); exact BK183.out) k_ hk⟩))
                                                (case aO => exact (by (with_reducible repeat (first | apply Kd.N_alloc | apply Kd.N_drewN | apply Kd.N_drew)); exact HO202.out))
                                                (case aS => exact (below_size (by repeat (first | (with_reducible first | exact HB.out | apply below_alloc | apply pw_below_drewN | apply below_drew1 | refine below_set ?_ GE183.out) | exact HB.out))))
                                                (case aL => have := LMc47.out; omega)
                                                intro v209 w62 ho hb hg hat
                                                rw [← Ny208.out] at ho
                                                have n0_ := Aside0.mk (Kd.R_over' (by (with_reducible repeat (first | apply Kd.R_alloc | apply Kd.R_drewN | apply Kd.R_drew)); exact HO_4.out) (Kd.N_typed (by (with_reducible repeat (first | apply Kd.N_alloc | apply Kd.N_drewN | apply Kd.N_drew)); exact HO202.out)) (by decide) hg)
                                                have n1_ := Aside0.mk (Kd.N_afterv (ok := (fun k_ => some k_ ≠ (v174 : Value).ownBlock ∧ some k_ ≠ (.slice Ao53 y189.length co53 : Value).ownBlock ∧ k_ ≠ gb183)) (by (with_reducible repeat (first | apply Kd.N_alloc | apply Kd.N_drewN | apply Kd.N_drew)); exact HO_5.out) hg hat)
                                                have n2_ := Aside0.mk (Kd.N_afterv (ok := (fun k_ => some k_ ≠ (v174 : Value).ownBlock ∧ some k_ ≠ (.slice Ao53 y189.length co53 : Value).ownBlock ∧ k_ ≠ gb183)) (by (with_reducible repeat (first | apply Kd.N_alloc | apply Kd.N_drewN | apply Kd.N_drew)); exact HO_44.out) hg hat)
                                                have n3_ := Aside0.mk (blk_grown (g := gb183) (o := .cells #[.int .i64 (wrap64 (x184000_3 + ((rd_T97 x5_3 x10_4).f0))), .slice Ao53 y189.length co53] 97 (0, 0)) (by (with_reducible repeat (first | refine blk_drewN ?_ _ | refine blk_drew ?_ | refine blk_alloc ?_ _)); exact BK183.out) hg (Kd.N_away HO202.out (fun _ hk => hk.2.2)))
                                                have n4_ := Aside0.mk (Kd.V_afterv (ok := (fun k_ => some k_ ≠ (v174 : Value).ownBlock ∧ some k_ ≠ (.slice (some ad187) x5_3.length co21 : Value).ownBlock ∧ some k_ ≠ (.slice Ao53 y189.length co53 : Value).ownBlock ∧ k_ ≠ gb183)) (by (with_reducible repeat (first | apply Kd.V_alloc | apply Kd.V_drewN | apply Kd.V_drew)); exact HL187_1.out) hg hat)
                                                have n5_ := Aside0.mk (Kd.V_afterv (ok := (fun k_ => some k_ ≠ (v174 : Value).ownBlock ∧ some k_ ≠ (.slice (some ad187) x5_3.length co21 : Value).ownBlock ∧ some k_ ≠ (.slice Ao53 y189.length co53 : Value).ownBlock ∧ k_ ≠ gb183)) (by (with_reducible repeat (first | apply Kd.V_alloc | apply Kd.V_drewN | apply Kd.V_drew)); exact HL188_1.out) hg hat)
                                                have n6_ := Aside0.mk (Kd.R_over' (by (with_reducible repeat (first | apply Kd.R_alloc | apply Kd.R_drewN | apply Kd.R_drew)); exact HO191.out) (Kd.N_typed (by (with_reducible repeat (first | apply Kd.N_alloc | apply Kd.N_drewN | apply Kd.N_drew)); exact HO202.out)) (by decide) hg)
                                                have n7_ := Aside0.mk (Kd.V_afterv (ok := (fun k_ => some k_ ≠ (v174 : Value).ownBlock ∧ some k_ ≠ (.slice Ao53 y189.length co53 : Value).ownBlock ∧ k_ ≠ gb183)) (by (with_reducible repeat (first | apply Kd.V_alloc | apply Kd.V_drewN | apply Kd.V_drew)); exact HO199.out) hg hat)
                                                have n8_ := Aside0.mk (Kd.V_afterv (ok := (fun k_ => some k_ ≠ (v174 : Value).ownBlock ∧ some k_ ≠ (.slice Ao53 y189.length co53 : Value).ownBlock ∧ k_ ≠ gb183)) (by (with_reducible repeat (first | apply Kd.V_alloc | apply Kd.V_drewN | apply Kd.V_drew)); exact HO207.out) hg hat)
                                                have n9_ := Aside0.mk (hb)
                                                have n10_ := Aside0.mk (ho)
                                                clear HO_4
                                                clear HO_5
                                                clear HO_44
                                                clear BK183
                                                clear HL187_1
                                                clear HL188_1
                                                clear HO191
                                                clear HO199
                                                clear HO207
                                                clear HB
                                                clear HO202
                                                have HO_4 := n0_
                                                have HO_5 := n1_
                                                have HO_44 := n2_
                                                have BK183 := n3_
                                                have HL187_1 := n4_
                                                have HL188_1 := n5_
                                                have HO191 := n6_
                                                have HO199 := n7_
                                                have HO207 := n8_
                                                have HB := n9_
                                                have HO210 := n10_
                                                clear n0_ n1_ n2_ n3_ n4_ n5_ n6_ n7_ n8_ n9_ n10_
                                                clear ho hb hg hat
                                                refine hK.out _ _ trivial (fun hHeld => ?_)
                                                clear hK K
                                                refine norm_ (a' := ?_) ?_ ?_
                                                rotate_left
                                                · show Act.put _ (some 88) _ = _
                                                  simp only [Act.put, List.setIfInBounds_toArray, List.set_cons_zero, List.set_cons_succ, i64_w, i32_w]
                                                  rfl
                                                refine pure_ (i := 10) (N := some 5) (v := ?_) (a' := ?_) #[true, true, true, true, true, true, true, true, true, true, true] rfl rfl (any_of HT_.out (by kernel_rfl)) (fun _ _ _ h => h) (Or.inl ⟨by rfl, ?_⟩) ?_ ?_
                                                rotate_left
                                                · intro w'
                                                  go_simp
                                                  with_reducible rfl
                                                rotate_left
                                                · simp only [Act.put, List.setIfInBounds_toArray, List.set_cons_zero, List.set_cons_succ, i64_w, i32_w]
                                                  rfl
                                                refine done_ (done_of HT_.out (by kernel_rfl)) ?_
                                                try go_wp2
                                                go_roundg k4
                                                case measure => have := HK1.out; have := HK2.out; have := HK3.out; have := HK4.out; omega
                                                case rel => exact ⟨(y208), (wrap64 (x9_3 + 1)), (wrap64 (x184000_3 + ((rd_T97 x5_3 x10_4).f0))), (y189), (.slice Ao53 y189.length co53), (by first | rfl | (simp; done) | (simp [*]; done)), H', ⟨by have := HK1.out; have := HK2.out; have := HK3.out; have := HK4.out; omega⟩, ⟨by (with_reducible repeat (first | apply Kd.R_alloc | apply Kd.R_drewN | apply Kd.R_drew)); exact HO_4.out⟩, ⟨by (with_reducible repeat (first | apply Kd.N_alloc | apply Kd.N_drewN | apply Kd.N_drew)); exact HO210.out⟩, ⟨by (with_reducible repeat (first | apply Kd.R_alloc | apply Kd.R_drewN | apply Kd.R_drew)); exact HO191.out⟩, ⟨by (with_reducible repeat (first | refine blk_drewN ?_ _ | refine blk_drew ?_ | refine blk_alloc ?_ _)); exact BK183.out⟩, ⟨by repeat (first | (with_reducible first | exact HB.out | apply below_alloc | apply pw_below_drewN | apply below_drew1 | refine below_set ?_ GE183.out) | exact HB.out)⟩⟩
                                              · rw [if_neg c47] at H
                                                exact absurd H (by simp)
                                            · rw [if_neg c46] at H
                                              exact absurd H (by simp)
                                          · rw [if_neg c45] at H
                                            exact absurd H (by simp)
                                        · rw [if_neg c43] at H
                                          exact absurd H (by simp)
                                      · rw [if_neg c42] at H
                                        exact absurd H (by simp)
                                    · rw [if_neg c40] at H
                                      exact absurd H (by simp)
                                  · rw [if_neg c39] at H
                                    exact absurd H (by simp)
                                · rw [if_neg c38] at H
                                  exact absurd H (by simp)
                        · rw [if_neg c20] at H
                          have c20b0 : decide (x9_3 < 2) = false := decide_eq_false c20
                          clear c20
                          have H' := Aside0.mk H
                          clear H
                          have hcz63_0 : wr.cell? ⟨gb183, 0, none⟩ = some (.int .i64 x184000_3) := (blk_cell BK183.out 0).trans rfl
                          have hcz63_1 : wr.cell? ⟨gb183, 1, none⟩ = some (u184001) := (blk_cell BK183.out 1).trans rfl
                          have hfz63_0 := blk_frozen BK183.out 0
                          have hfz63_1 := blk_frozen BK183.out 1
                          obtain ⟨Ao64, co64, eo64⟩ := Kd.R_slice HO_184001.out
                          subst eo64
                          go_wp2
                          go_loopg [92] k3 (fun kq v92 w' => ∃ (x4_4 : List Int) (x92_4 : Int), v92 = .int .i64 x92_4 ∧ Aside0 (spec_LengthsOf.l4 kq x4_4 x5_3 x184001_3 (x184001_3.length : Int) x92_4 x184000_3 x184001_3 = some (r1, r2)) ∧ Aside0 (kq ≤ k3) ∧ Aside0 (Kd.R (Kd.int .i64) 3 w' w.heap.size (fun k_ => some k_ ≠ ((.slice Ao64 x184001_3.length co64) : Value).ownBlock ∧ some k_ ≠ ((.slice Ao64 x184001_3.length co64) : Value).ownBlock) v174 x4_4) ∧ Aside0 (Kd.N k97 97 w' w.heap.size (fun k_ => some k_ ≠ (v174 : Value).ownBlock ∧ some k_ ≠ ((.slice Ao64 x184001_3.length co64) : Value).ownBlock ∧ some k_ ≠ ((.slice Ao64 x184001_3.length co64) : Value).ownBlock ∧ k_ ≠ gb183) u5 x5_3) ∧ Aside0 (Kd.R (Kd.int .i64) 3 w' w.heap.size (fun k_ => some k_ ≠ (v174 : Value).ownBlock) (.slice Ao64 x184001_3.length co64) x184001_3) ∧ Aside0 (Kd.R (Kd.int .i64) 3 w' w.heap.size (fun k_ => some k_ ≠ (v174 : Value).ownBlock) (.slice Ao64 x184001_3.length co64) x184001_3) ∧ Aside0 (w'.heap[gb183]? = some (.cells #[.int .i64 x184000_3, (.slice Ao64 x184001_3.length co64)] 97 (0, 0))) ∧ Aside0 (Below w.heap.size w w'))
                          case atStart => exact ⟨(x4_2), (0), (by first | rfl | (simp; done) | (simp [*]; done)), H', ⟨Nat.le_refl _⟩, ⟨by (with_reducible repeat (first | apply Kd.R_alloc | apply Kd.R_drewN | apply Kd.R_drew)); exact Kd.R_mono HO_4.out (fun _ hk => ⟨hk, hk⟩)⟩, ⟨by (with_reducible repeat (first | apply Kd.N_alloc | apply Kd.N_drewN | apply Kd.N_drew)); exact Kd.N_mono HO_5.out (fun _ hk => ⟨hk.1, ⟨hk.2.1, ⟨hk.2.1, hk.2.2⟩⟩⟩)⟩, ⟨by (with_reducible repeat (first | apply Kd.R_alloc | apply Kd.R_drewN | apply Kd.R_drew)); exact HO_184001.out⟩, ⟨by (with_reducible repeat (first | apply Kd.R_alloc | apply Kd.R_drewN | apply Kd.R_drew)); exact HO_184001.out⟩, ⟨by (with_reducible repeat (first | refine blk_drewN ?_ _ | refine blk_drew ?_ | refine blk_alloc ?_ _)); exact BK183.out⟩, ⟨by repeat (first | (with_reducible first | exact HB.out | apply below_alloc | apply pw_below_drewN | apply below_drew1 | refine below_set ?_ GE183.out) | exact HB.out)⟩⟩
                          case round =>
                            clear H'
                            try clear c1
                            try clear p1
                            try clear q1
                            try clear hx1
                            try clear c2
                            try clear p2
                            try clear c3
                            try clear c4
                            try clear c5
                            try clear q5
                            try clear p6
                            try clear c18
                            try clear p18
                            try clear q18
                            try clear hx18
                            try clear c20
                            try clear c20b0
                            try clear c38
                            try clear c39
                            try clear c40
                            try clear c42
                            try clear c43
                            try clear c45
                            try clear c46
                            try clear c47
                            try clear q57
                            try clear c58
                            try clear q58
                            try clear p64
                            try clear hcz63_0
                            try clear hcz63_1
                            try clear hfz63_0
                            try clear hfz63_1
                            try clear hx188_0
                            try clear hx188_1
                            try clear p188
                            try clear q058
                            try clear q188
                            try clear q57
                            try clear q58
                            obtain ⟨x4_4, x92_4, rfl, HA, HK4, HO_4, HO_5, HO_90, HO_184001, BK183, HB⟩ := hrel
                            cases gk with
                            | zero => exact absurd HA.out (by simp [spec_LengthsOf.l4])
                            | succ k4 =>
                              have H := HA.out
                              clear HA
                              simp only [spec_LengthsOf.l4] at H
                              by_cases c65 : x92_4 < (x184001_3.length : Int)
                              · rw [if_pos c65] at H
                                have c65b0 : decide (x92_4 < (x184001_3.length : Int)) = true := decide_eq_true c65
                                clear c65
                                by_cases c66 : 0 ≤ x92_4
                                · rw [if_pos c66] at H
                                  have c66b0 : decide (0 ≤ x92_4) = true := decide_eq_true c66
                                  clear c66
                                  by_cases c67 : x92_4 < (x184001_3.length : Int)
                                  · rw [if_pos c67] at H
                                    have c67b0 : decide (x92_4 < (x184001_3.length : Int)) = true := decide_eq_true c67
                                    clear c67
                                    by_cases c68 : 0 ≤ (rd x184001_3 x92_4)
                                    · rw [if_pos c68] at H
                                      have c68b0 : decide (0 ≤ (rd x184001_3 x92_4)) = true := decide_eq_true c68
                                      clear c68
                                      by_cases c69 : (rd x184001_3 x92_4) < (x4_4.length : Int)
                                      · rw [if_pos c69] at H
                                        have c69b0 : decide ((rd x184001_3 x92_4) < (x4_4.length : Int)) = true := decide_eq_true c69
                                        clear c69
                                        obtain ⟨y213, hy213⟩ : ∃ y_ : List Int, y_ = (x4_4.set ((rd x184001_3 x92_4) : Int).toNat (wrap64 ((rd x4_4 (rd x184001_3 x92_4)) + 1))) := ⟨_, rfl⟩
                                        replace H : (spec_LengthsOf.l4 k4 y213 x5_3 x184001_3 (x184001_3.length : Int) (wrap64 (x92_4 + 1)) x184000_3 x184001_3) = some (r1, r2) := by first | (rw [hy213]; with_reducible exact H) | (have H2_ := (Option.bind_some _ _).symm.trans H; rw [hy213]; with_reducible exact H2_) | (have H2_ := (Option.bind_some _ _).symm.trans H; with_reducible exact H2_) | with_reducible exact H | (rw [hy213]; exact H) | exact H
                                        have Ny213 := Aside0.mk hy213
                                        clear hy213
                                        have H' := Aside0.mk H
                                        clear H
                                        have p211 : 0 ≤ (x92_4 : Int) := of_decide_eq_true (by first | (with_reducible assumption) | assumption)
                                        have q211 : x92_4 < (x184001_3.length : Int) := of_decide_eq_true (by first | (with_reducible assumption) | assumption)
                                        obtain ⟨ad211, e211, hx211_0⟩ := Kd.at_int (Kd.R_reads' HO_90.out).2.2 x92_4 p211 q211
                                        cases e211
                                        replace p211 := eq_true p211
                                        replace q211 := eq_true q211
                                        obtain ⟨Ao71, co71, eo71⟩ := Kd.R_slice HO_4.out
                                        subst eo71
                                        have p212 : 0 ≤ ((rd x184001_3 x92_4) : Int) := of_decide_eq_true (by first | (with_reducible assumption) | assumption)
                                        have q212 : (rd x184001_3 x92_4) < (x4_4.length : Int) := of_decide_eq_true (by first | (with_reducible assumption) | assumption)
                                        obtain ⟨ad212, e212, hx212_0⟩ := Kd.at_int (Kd.R_reads' HO_4.out).2.2 (rd x184001_3 x92_4) p212 q212
                                        cases e212
                                        replace p212 := eq_true p212
                                        replace q212 := eq_true q212
                                        have p70 : 0 ≤ ((rd x184001_3 x92_4) : Int) := of_decide_eq_true (by first | (with_reducible assumption) | assumption)
                                        have q70 : ((rd x184001_3 x92_4) : Int) < ((x4_4.length : Int) : Int) := of_decide_eq_true (by first | (with_reducible assumption) | assumption)
                                        obtain ⟨go70, co70, eo70, gb70, gl70, cl70, HG70⟩ := Kd.R_form HO_4.out (by omega)
                                        (first | cases eo70 | (injection eo70 with ea_ en_ ec_; (first | subst ea_ | (injection ea_ with ea_; subst ea_)); subst ec_; clear en_))
                                        have GB70 := Aside0.mk gb70
                                        have GG70 := Aside0.mk HG70
                                        clear gb70 gl70 HG70
                                        (first | simp only [add_plain] at hx212_0 | skip)
                                        obtain ⟨hx70_0, hf70_0⟩ := Kd.R_celln 0 HO_4.out ((rd x184001_3 x92_4) : Int) p70 q70
                                        replace p70 := eq_true p70
                                        replace q70 := eq_true q70
                                        have HP72 := Kd.R_putg HO_4.out ((rd x184001_3 x92_4) : Int) (wrap64 ((rd x4_4 (rd x184001_3 x92_4)) + 1))
                                        go_wp2_with (first | ((with_reducible refine gate_store (t := 3) (p := 101) rfl ?_); refine store_event (t := 3) (p := 101) (v := ?vo_w73) (w1 := (wr.setCell ⟨go70, ((rd x184001_3 x92_4) : Int).toNat, none⟩ (.int .i64 (wrap64 ((rd x4_4 (rd x184001_3 x92_4)) + 1))))) ?hg ?ho ?hn ?hr ?_; (case ho => rfl); (case hg => rfl); (case hn => rfl); (case hr => first | (go_simp; done) | (go_simp; rfl)); intro w73 hw; have hg : wr.grownBy w73 (some go70) := (by rw [hw]; exact HP72.2); have hp_ : Kd.R (Kd.int .i64) 3 w73 w.heap.size (fun k_ => some k_ ≠ (.slice (some ad211) x184001_3.length co64 : Value).ownBlock ∧ some k_ ≠ (.slice (some ad211) x184001_3.length co64 : Value).ownBlock) (.slice (some ⟨go70, 0, none⟩) x4_4.length co71) y213 := (by rw [hw, Ny213.out]; exact HP72.1); clear HP72; have n0_ := Aside0.mk (hp_); have n1_ := Aside0.mk (Kd.N_afterv (v := (.slice (some ⟨go70, 0, none⟩) x4_4.length co71)) (v1 := (.slice (some ⟨go70, 0, none⟩) x4_4.length co71)) (ok := (fun k_ => some k_ ≠ (.slice (some ad211) x184001_3.length co64 : Value).ownBlock ∧ some k_ ≠ (.slice (some ad211) x184001_3.length co64 : Value).ownBlock ∧ k_ ≠ gb183)) (by (with_reducible repeat (first | apply Kd.N_alloc | apply Kd.N_drewN | apply Kd.N_drew)); exact Kd.N_mono HO_5.out (fun _ hk => ⟨⟨hk.2.1, ⟨hk.2.2.1, hk.2.2.2⟩⟩, hk.1⟩)) hg (.inl rfl)); have n2_ := Aside0.mk (Kd.R_after (v := (.slice (some ⟨go70, 0, none⟩) x4_4.length co71)) (v1 := (.slice (some ⟨go70, 0, none⟩) x4_4.length co71)) (ok := (fun _ => True)) (by (with_reducible repeat (first | apply Kd.R_alloc | apply Kd.R_drewN | apply Kd.R_drew)); exact Kd.R_mono HO_90.out (fun _ hk => ⟨trivial, hk⟩)) hg (.inl rfl)); have n3_ := Aside0.mk (Kd.R_after (v := (.slice (some ⟨go70, 0, none⟩) x4_4.length co71)) (v1 := (.slice (some ⟨go70, 0, none⟩) x4_4.length co71)) (ok := (fun _ => True)) (by (with_reducible repeat (first | apply Kd.R_alloc | apply Kd.R_drewN | apply Kd.R_drew)); exact Kd.R_mono HO_184001.out (fun _ hk => ⟨trivial, hk⟩)) hg (.inl rfl)); have n4_ := Aside0.mk (blk_grown (g := gb183) (o := .cells #[.int .i64 x184000_3, .slice (some ad211) x184001_3.length co64] 97 (0, 0)) (by (with_reducible repeat (first | refine blk_drewN ?_ _ | refine blk_drew ?_ | refine blk_alloc ?_ _)); exact BK183.out) hg (Kd.R_ne HO_4.out BK183.out (by decide))); have n5_ := Aside0.mk ((by rw [hw]; exact below_set (HB.out) GB70.out : Below w.heap.size w w73)); clear HO_4; clear HO_5; clear HO_90; clear HO_184001; clear BK183; clear HB; have HO_4 := n0_; have HO_5 := n1_; have HO_90 := n2_; have HO_184001 := n3_; have BK183 := n4_; have HB := n5_; clear n0_ n1_ n2_ n3_ n4_ n5_; clear hg hw hp_))
                                        go_roundg k4
                                        case measure => have := HK1.out; have := HK2.out; have := HK3.out; have := HK4.out; omega
                                        case rel => exact ⟨(y213), (wrap64 (x92_4 + 1)), (by first | rfl | (simp; done) | (simp [*]; done)), H', ⟨by have := HK1.out; have := HK2.out; have := HK3.out; have := HK4.out; omega⟩, ⟨by (with_reducible repeat (first | apply Kd.R_alloc | apply Kd.R_drewN | apply Kd.R_drew)); exact HO_4.out⟩, ⟨by (with_reducible repeat (first | apply Kd.N_alloc | apply Kd.N_drewN | apply Kd.N_drew)); exact Kd.N_mono HO_5.out (fun _ hk => ⟨hk.2, ⟨hk.1.1, ⟨hk.1.2.1, hk.1.2.2⟩⟩⟩)⟩, ⟨by (with_reducible repeat (first | apply Kd.R_alloc | apply Kd.R_drewN | apply Kd.R_drew)); exact Kd.R_mono HO_90.out (fun _ hk => hk.2)⟩, ⟨by (with_reducible repeat (first | apply Kd.R_alloc | apply Kd.R_drewN | apply Kd.R_drew)); exact Kd.R_mono HO_184001.out (fun _ hk => hk.2)⟩, ⟨by (with_reducible repeat (first | refine blk_drewN ?_ _ | refine blk_drew ?_ | refine blk_alloc ?_ _)); exact BK183.out⟩, ⟨by repeat (first | (with_reducible first | exact HB.out | apply below_alloc | apply pw_below_drewN | apply below_drew1 | refine below_set ?_ GE183.out) | exact HB.out)⟩⟩
                                      · rw [if_neg c69] at H
                                        exact absurd H (by simp)
                                    · rw [if_neg c68] at H
                                      exact absurd H (by simp)
                                  · rw [if_neg c67] at H
                                    exact absurd H (by simp)
                                · rw [if_neg c66] at H
                                  exact absurd H (by simp)
                              · rw [if_neg c65] at H
                                have c65b0 : decide (x92_4 < (x184001_3.length : Int)) = false := decide_eq_false c65
                                clear c65
                                by_cases c74 : x5_3.length < 4398046511104
                                · rw [if_pos c74] at H
                                  have LMc74 := Aside0.mk c74
                                  clear c74
                                  obtain ⟨y214, hy214⟩ : ∃ y_ : List (S97), y_ = (x5_3 ++ [(⟨x184000_3, x184001_3⟩ : S97)]) := ⟨_, rfl⟩
                                  replace H : (spec_LengthsOf.l1 k4 x4_4 y214) = some (r1, r2) := by first | (rw [hy214]; with_reducible exact H) | (have H2_ := (Option.bind_some _ _).symm.trans H; rw [hy214]; with_reducible exact H2_) | (have H2_ := (Option.bind_some _ _).symm.trans H; with_reducible exact H2_) | with_reducible exact H | (rw [hy214]; exact H) | exact H
                                  have Ny214 := Aside0.mk hy214
                                  clear hy214
                                  have H' := Aside0.mk H
                                  clear H
                                  have hcz75_0 : wr.cell? ⟨gb183, 0, none⟩ = some (.int .i64 x184000_3) := (blk_cell BK183.out 0).trans rfl
                                  have hcz75_1 : wr.cell? ⟨gb183, 1, none⟩ = some (.slice Ao64 x184001_3.length co64) := (blk_cell BK183.out 1).trans rfl
                                  have hfz75_0 := blk_frozen BK183.out 0
                                  have hfz75_1 := blk_frozen BK183.out 1
                                  go_wp2_with (first | ((with_reducible refine gate_builtin (b := .append) (xs := #[.tmp 103, .tmp 105]) rfl ?_); at_builtin; refine Kd.N_append k97 (w0 := w) w.heap.size rfl (.tmp 103) (.tmp 105) 95 97 (.agg #[(.int .i64 0), (.slice none 0 0)]) 32 rfl Try.underlying95 info97 rfl (by decide) (by omega) u5 x5_3 (⟨x184000_3, x184001_3⟩ : S97) [.int .i64 x184000_3, .slice Ao64 x184001_3.length co64] (fun k_ => some k_ ≠ (v174 : Value).ownBlock ∧ k_ ≠ gb183) (fun k_ => ((fun k_ => some k_ ≠ (v174 : Value).ownBlock ∧ k_ ≠ gb183)) k_ ∧ some k_ ≠ (u5 : Value).ownBlock) rfl rfl ?aP (fun _ hk => hk) ?aF ?aO ?aB ?aS ?aL ?_; (case aP => exact (k97_mkF _ _ (⟨x184000_3, x184001_3⟩ : S97) (Kd.R_reads' (Kd.R_mono (ok' := (fun k_ => ((fun k_ => some k_ ≠ (v174 : Value).ownBlock ∧ k_ ≠ gb183)) k_ ∧ some k_ ≠ (u5 : Value).ownBlock)) (Kd.R_types (Kd.R_apart' (HO_184001.out) (Kd.N_typed HO_5.out) (by decide)) BK183.out (by decide)) (fun k_ hk => ⟨⟨hk.1.1, hk.2⟩, hk.1.2⟩))).2.1 (Kd.R_F (Kd.R_mono (ok' := (fun k_ => ((fun k_ => some k_ ≠ (v174 : Value).ownBlock ∧ k_ ≠ gb183)) k_ ∧ some k_ ≠ (u5 : Value).ownBlock)) (Kd.R_types (Kd.R_apart' (HO_184001.out) (Kd.N_typed HO_5.out) (by decide)) BK183.out (by decide)) (fun k_ hk => ⟨⟨hk.1.1, hk.2⟩, hk.1.2⟩))))); (case aB => exact (by repeat (first | (with_reducible first | exact HB.out | apply below_alloc | apply pw_below_drewN | apply below_drew1 | refine below_set ?_ GE183.out) | exact HB.out))); (case aF => exact (fun k_ hk => ⟨Kd.fresh' (Kd.R_lt (by (with_reducible repeat (first | apply Kd.R_alloc | apply Kd.R_drewN | apply Kd.R_drew)); exact HO_4.out)) k_ hk, Kd.freshB (g := gb183) (o := .cells #[.int .i64 x184000_3, .slice Ao64 x184001_3.length co64] 97 (0, 0)) (by (with_reducible repeat (first | refine blk_drewN ?_ _ | refine blk_drew ?_ | refine blk_alloc ?_ _)); exact BK183.out) k_ hk⟩)); (case aO => exact (by (with_reducible repeat (first | apply Kd.N_alloc | apply Kd.N_drewN | apply Kd.N_drew)); exact Kd.N_mono HO_5.out (fun _ hk => ⟨hk.1, hk.2.2.2⟩))); (case aS => exact (below_size (by repeat (first | (with_reducible first | exact HB.out | apply below_alloc | apply pw_below_drewN | apply below_drew1 | refine below_set ?_ GE183.out) | exact HB.out)))); (case aL => have := LMc74.out; omega); intro v215 w76 ho hb hg hat; rw [← Ny214.out] at ho; have n0_ := Aside0.mk (Kd.R_over' (by (with_reducible repeat (first | apply Kd.R_alloc | apply Kd.R_drewN | apply Kd.R_drew)); exact HO_4.out) (Kd.N_typed (by (with_reducible repeat (first | apply Kd.N_alloc | apply Kd.N_drewN | apply Kd.N_drew)); exact HO_5.out)) (by decide) hg); have n1_ := Aside0.mk (Kd.R_over' (by (with_reducible repeat (first | apply Kd.R_alloc | apply Kd.R_drewN | apply Kd.R_drew)); exact HO_90.out) (Kd.N_typed (by (with_reducible repeat (first | apply Kd.N_alloc | apply Kd.N_drewN | apply Kd.N_drew)); exact HO_5.out)) (by decide) hg); have n2_ := Aside0.mk (blk_grown (g := gb183) (o := .cells #[.int .i64 x184000_3, .slice Ao64 x184001_3.length co64] 97 (0, 0)) (by (with_reducible repeat (first | refine blk_drewN ?_ _ | refine blk_drew ?_ | refine blk_alloc ?_ _)); exact BK183.out) hg (Kd.N_away HO_5.out (fun _ hk => hk.2.2.2))); have n3_ := Aside0.mk (hb); have n4_ := Aside0.mk (ho); clear HO_4; clear HO_90; clear BK183; clear HB; clear HO_5; clear HO_184001; have HO_4 := n0_; have HO_90 := n1_; have BK183 := n2_; have HB := n3_; have HO216 := n4_; clear n0_ n1_ n2_ n3_ n4_; clear ho hb hg hat))
                                  go_roundg k4
                                  case measure => have := HK1.out; have := HK2.out; have := HK3.out; have := HK4.out; omega
                                  case rel => exact ⟨(x4_4), (y214), H', ⟨by have := HK1.out; have := HK2.out; have := HK3.out; have := HK4.out; omega⟩, ⟨by (with_reducible repeat (first | apply Kd.R_alloc | apply Kd.R_drewN | apply Kd.R_drew)); exact Kd.R_mono HO_4.out (fun _ hk => trivial)⟩, ⟨by (with_reducible repeat (first | apply Kd.N_alloc | apply Kd.N_drewN | apply Kd.N_drew)); exact Kd.N_mono HO216.out (fun _ hk => hk.1)⟩, ⟨by repeat (first | (with_reducible first | exact HB.out | apply below_alloc | apply pw_below_drewN | apply below_drew1 | refine below_set ?_ GE183.out) | exact HB.out)⟩⟩
                                · rw [if_neg c74] at H
                                  exact absurd H (by simp)
                  · rw [if_neg c16] at H
                    have c16b0 : decide (1 < (x5_2.length : Int)) = false := decide_eq_false c16
                    have c16b1 : decide (1 < x5_2.length) = false := decide_eq_false (by omega)
                    clear c16
                    simp only [Option.some.injEq, Prod.mk.injEq] at H
                    obtain ⟨rfl, rfl⟩ := H
                    obtain ⟨Ao77, co77, eo77⟩ := Kd.N_slice HO_5.out
                    subst eo77
                    go_wp2
                    go_ret2
                    exact ⟨_, by first | rfl | (simp [errW_none, errW_some] <;> rfl) | (simp [*, errW_none, errW_some] <;> rfl), by (with_reducible repeat (first | apply Kd.R_alloc | apply Kd.R_drewN | apply Kd.R_drew)); exact HO_4.out, by repeat (first | (with_reducible first | exact HB.out | apply below_alloc | apply pw_below_drewN | apply below_drew1) | exact HB.out)⟩
      · rw [if_neg c5] at H
        exact absurd H (by simp)
    · rw [if_neg c4] at H
      exact absurd H (by simp)
  · replace c3 := Bool.eq_false_iff.mpr c3
    subst c3
    have H1 : (some (([] : List Int), false)) = some (r1, r2) := by rw [if_neg (show ¬ (false = true) by decide)] at H; exact H
    clear H
    have H := H1
    clear H1
    simp only [Option.some.injEq, Prod.mk.injEq] at H
    obtain ⟨rfl, rfl⟩ := H
    go_enter Try.func32, Try.ntmps32
    go_wp2_with (first | ((with_reducible refine gate_callee (f := 77) rfl ?_); refine goesL_ (some 16) rfl rfl Try.func77 (by kernel_rfl) rfl #[.slice A0 l0.length c0] rfl (by (try simp only [List.map_toArray, List.map_cons, List.map_nil]); first | done | rfl | (simp only [List.length_drop, List.length_take]; rfl)) ?_; (with_reducible refine (spec_l15Weights.calls k _ _ l0 false _ ?side1 ?side2 A2.out).mono ?_); (case side1 => repeat (first | exact HR0.out | (with_reducible refine Kd.C_alloc ?_ _) | (with_reducible refine Kd.C_drewN ?_ _) | (with_reducible refine Kd.C_drew ?_))); (case side2 => exact HC0.out); rintro e w' ⟨rfl, ⟨nd, rfl⟩⟩; refine ⟨_, rfl, ?_⟩))
    go_ret2
    exact ⟨_, by first | rfl | (simp [errW_none, errW_some] <;> rfl) | (simp [*, errW_none, errW_some] <;> rfl), by first | exact Kd.R_nil _ _ _ _ _ | exact Kd.N_nil _ _ _ _ _ | exact Kd.V_nil _ _ _ _ _ | exact Kd.Q_nil _ _ _ _ _ | exact Kd.S_nil _ _ _ _ _, by repeat (first | (with_reducible first | exact HB.out | apply below_alloc | apply pw_below_drewN | apply below_drew1) | exact HB.out)⟩

end Go.Proofs.Ytobbhgghpjecjaa.PFnHuffman
