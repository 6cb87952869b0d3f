-- written by a program of this session (wip/tool)
import Derived.Test.YtobbhgghpjecjaaDoorPFnBitsx0
import Derived.Test.YtobbhgghpjecjaaDoorPFnBitsx2
import Derived.Test.YtobbhgghpjecjaaDoorPFnBitsx3
import Derived.Test.YtobbhgghpjecjaaDoorPFnBitsx4
import Derived.Test.YtobbhgghpjecjaaDoorPFnBitsx7
import Derived.Test.YtobbhgghpjecjaaDoorPFnBitsx8
import Derived.Test.YtobbhgghpjecjaaDoorPFnBitsx9
import Derived.Test.YtobbhgghpjecjaaDoorOwn0
import Derived.Test.YtobbhgghpjecjaaDoorOwnOpen
import Derived.Test.YtobbhgghpjecjaaDoorOwnDec
import Derived.Test.YtobbhgghpjecjaaDoorOwnBld
import Derived.Test.YtobbhgghpjecjaaDoorOwnRep
import Derived.Test.YtobbhgghpjecjaaDoorOwnShort
import Derived.WalkKit
import Derived.BigCall
namespace Go.Proofs.YtobbhgghpjecjaaDoor.PFnBits
open Go.RowKit Go.Proofs.YtobbhgghpjecjaaDoorW.PrintWords Go.Proofs.YtobbhgghpjecjaaDoorW.PrintLast Go.Proofs.YtobbhgghpjecjaaDoorW.PrintMore Go.Shelf Go.Proofs.YtobbhgghpjecjaaDoorOwn
attribute [local go_sem] max2_int min2_int max_two min_two max_three min_three max_four min_four   -- for this text's walks alone
set_option linter.unusedVariables false
set_option linter.unusedSimpArgs false

/-! ### laws_FnBits: function 5 -/
mutual
def laws_FnBits.j0 : Nat → List Int → List Int → List Int → ByteArray → Bool → Bool → Option (Bool)
 | 0, _, _, _, _, _, _ => none
 | k + 1, x1, x5, x6, x7, x8, x58 => if x58 = true then (none) else (if x8 = true then ((impl_DecodeBits.f k x5 x7).bind fun bt384 => (if bt384.2 = true then ((laws_sameInts.f k bt384.1 x6).bind fun t388 => (if t388 = true then (laws_FnBits.j1 k x1) else (none))) else (none))) else (laws_FnBits.j1 k x1))
def laws_FnBits.j1 : Nat → List Int → Option (Bool)
 | 0, _ => none
 | k + 1, x1 => (spec_DrawPackBits.f k x1).bind fun t389 => ((impl_PackBits.f k t389).bind fun bt390 => ((spec_PackBits.f k t389).bind fun bt393 => (if (bt390.2.2 != bt393.2.2) = true then (laws_FnBits.j2 k x1 t389 bt390.1 bt390.2.1 bt390.2.2 true) else (laws_FnBits.j2 k x1 t389 bt390.1 bt390.2.1 bt390.2.2 (bt390.2.1 != bt393.2.1)))))
def laws_FnBits.j2 : Nat → List Int → ByteArray → ByteArray → Int → Bool → Bool → Option (Bool)
 | 0, _, _, _, _, _, _ => none
 | k + 1, x1, x13, x14, x15, x16, x95 => if x95 = true then (none) else (if x16 = true then ((impl_UnpackBits.f k x14 x15).bind fun bt396 => ((spec_DrawDecodeBits.f k x1).bind fun bt398 => ((impl_DecodeBits.f k bt398.1 bt398.2).bind fun bt402 => ((spec_DecodeBits.f k bt398.1 bt398.2).bind fun bt406 => (if bt396.2 = true then (if bt396.1.toList = x13.toList then (if (x14.size : Int) = (wrap64 (Int.tdiv (wrap64 ((x13.size : Int) + 7)) 8)) then (if (bt402.2 == bt406.2) = true then ((laws_sameInts.f k bt402.1 bt406.1).bind fun t410 => (some t410)) else (none)) else (none)) else (none)) else (none)))))) else (some (x14.toList == ([] : List UInt8))))
end
def laws_FnBits.f (k : Nat) (l0 : List Int) (l1 : List Int) : Option (Bool) := if (wrap64 ((l0.length : Int) + (l1.length : Int))) > 1048576 then (some true) else ((spec_DrawEncodeBits.f k l0).bind fun bt374 => ((impl_EncodeBits.f k bt374.1 bt374.2).bind fun bt380 => ((spec_EncodeBits.f k bt374.1 bt374.2).bind fun bt382 => (if (bt380.2 != bt382.2) = true then (laws_FnBits.j0 k l1 bt374.1 bt374.2 bt380.1 bt380.2 true) else (laws_FnBits.j0 k l1 bt374.1 bt374.2 bt380.1 bt380.2 (bt380.1.toList != bt382.1.toList))))))
theorem laws_FnBits.mono_l : ∀ k, (∀ y0 y1 y2 y3 y4 y5, LeO (laws_FnBits.j0 k y0 y1 y2 y3 y4 y5) (laws_FnBits.j0 (k + 1) y0 y1 y2 y3 y4 y5)) ∧ (∀ y0, LeO (laws_FnBits.j1 k y0) (laws_FnBits.j1 (k + 1) y0)) ∧ (∀ y0 y1 y2 y3 y4 y5, LeO (laws_FnBits.j2 k y0 y1 y2 y3 y4 y5) (laws_FnBits.j2 (k + 1) y0 y1 y2 y3 y4 y5))
 | 0 => ⟨fun _ _ _ _ _ _ r h => by simp [laws_FnBits.j0] at h, fun _ r h => by simp [laws_FnBits.j1] at h, fun _ _ _ _ _ _ r h => by simp [laws_FnBits.j2] at h⟩
 | k + 1 => by
  obtain ⟨ih0, ih1, ih2⟩ := laws_FnBits.mono_l k
  refine ⟨?_, ?_, ?_⟩
  ·intro y0 y1 y2 y3 y4 y5
   unfold laws_FnBits.j0
   repeat' first
   | (with_reducible exact ih0 _ _ _ _ _ _)
   | (with_reducible exact ih1 _)
   | (with_reducible exact ih2 _ _ _ _ _ _)
   | (with_reducible exact impl_DecodeBits.mono _ _ _)
   | (with_reducible exact impl_EncodeBits.mono _ _ _)
   | (with_reducible exact impl_PackBits.mono _ _)
   | (with_reducible exact impl_UnpackBits.mono _ _ _)
   | (with_reducible exact laws_sameInts.mono _ _ _)
   | (with_reducible exact spec_DecodeBits.mono _ _ _)
   | (with_reducible exact spec_DrawDecodeBits.mono _ _)
   | (with_reducible exact spec_DrawEncodeBits.mono _ _)
   | (with_reducible exact spec_DrawPackBits.mono _ _)
   | (with_reducible exact spec_EncodeBits.mono _ _ _)
   | (with_reducible exact spec_PackBits.mono _ _)
   | (with_reducible exact LeO.refl _)
   | (with_reducible exact LeO.none _)
   | (with_reducible refine LeO.ite ?_ ?_)
   | (with_reducible refine LeO.bind ?_ (fun _ => ?_))
   | exact ih0 _ _ _ _ _ _
   | exact ih1 _
   | exact ih2 _ _ _ _ _ _
   | exact impl_DecodeBits.mono _ _ _
   | exact impl_EncodeBits.mono _ _ _
   | exact impl_PackBits.mono _ _
   | exact impl_UnpackBits.mono _ _ _
   | exact laws_sameInts.mono _ _ _
   | exact spec_DecodeBits.mono _ _ _
   | exact spec_DrawDecodeBits.mono _ _
   | exact spec_DrawEncodeBits.mono _ _
   | exact spec_DrawPackBits.mono _ _
   | exact spec_EncodeBits.mono _ _ _
   | exact spec_PackBits.mono _ _
   | exact LeO.none _
   | refine LeO.ite ?_ ?_
   | refine LeO.bind ?_ (fun _ => ?_)
  ·intro y0
   unfold laws_FnBits.j1
   repeat' first
   | (with_reducible exact ih0 _ _ _ _ _ _)
   | (with_reducible exact ih1 _)
   | (with_reducible exact ih2 _ _ _ _ _ _)
   | (with_reducible exact impl_DecodeBits.mono _ _ _)
   | (with_reducible exact impl_EncodeBits.mono _ _ _)
   | (with_reducible exact impl_PackBits.mono _ _)
   | (with_reducible exact impl_UnpackBits.mono _ _ _)
   | (with_reducible exact laws_sameInts.mono _ _ _)
   | (with_reducible exact spec_DecodeBits.mono _ _ _)
   | (with_reducible exact spec_DrawDecodeBits.mono _ _)
   | (with_reducible exact spec_DrawEncodeBits.mono _ _)
   | (with_reducible exact spec_DrawPackBits.mono _ _)
   | (with_reducible exact spec_EncodeBits.mono _ _ _)
   | (with_reducible exact spec_PackBits.mono _ _)
   | (with_reducible exact LeO.refl _)
   | (with_reducible exact LeO.none _)
   | (with_reducible refine LeO.ite ?_ ?_)
   | (with_reducible refine LeO.bind ?_ (fun _ => ?_))
   | exact ih0 _ _ _ _ _ _
   | exact ih1 _
   | exact ih2 _ _ _ _ _ _
   | exact impl_DecodeBits.mono _ _ _
   | exact impl_EncodeBits.mono _ _ _
   | exact impl_PackBits.mono _ _
   | exact impl_UnpackBits.mono _ _ _
   | exact laws_sameInts.mono _ _ _
   | exact spec_DecodeBits.mono _ _ _
   | exact spec_DrawDecodeBits.mono _ _
   | exact spec_DrawEncodeBits.mono _ _
   | exact spec_DrawPackBits.mono _ _
   | exact spec_EncodeBits.mono _ _ _
   | exact spec_PackBits.mono _ _
   | exact LeO.none _
   | refine LeO.ite ?_ ?_
   | refine LeO.bind ?_ (fun _ => ?_)
  ·intro y0 y1 y2 y3 y4 y5
   unfold laws_FnBits.j2
   repeat' first
   | (with_reducible exact ih0 _ _ _ _ _ _)
   | (with_reducible exact ih1 _)
   | (with_reducible exact ih2 _ _ _ _ _ _)
   | (with_reducible exact impl_DecodeBits.mono _ _ _)
   | (with_reducible exact impl_EncodeBits.mono _ _ _)
   | (with_reducible exact impl_PackBits.mono _ _)
   | (with_reducible exact impl_UnpackBits.mono _ _ _)
   | (with_reducible exact laws_sameInts.mono _ _ _)
   | (with_reducible exact spec_DecodeBits.mono _ _ _)
   | (with_reducible exact spec_DrawDecodeBits.mono _ _)
   | (with_reducible exact spec_DrawEncodeBits.mono _ _)
   | (with_reducible exact spec_DrawPackBits.mono _ _)
   | (with_reducible exact spec_EncodeBits.mono _ _ _)
   | (with_reducible exact spec_PackBits.mono _ _)
   | (with_reducible exact LeO.refl _)
   | (with_reducible exact LeO.none _)
   | (with_reducible refine LeO.ite ?_ ?_)
   | (with_reducible refine LeO.bind ?_ (fun _ => ?_))
   | exact ih0 _ _ _ _ _ _
   | exact ih1 _
   | exact ih2 _ _ _ _ _ _
   | exact impl_DecodeBits.mono _ _ _
   | exact impl_EncodeBits.mono _ _ _
   | exact impl_PackBits.mono _ _
   | exact impl_UnpackBits.mono _ _ _
   | exact laws_sameInts.mono _ _ _
   | exact spec_DecodeBits.mono _ _ _
   | exact spec_DrawDecodeBits.mono _ _
   | exact spec_DrawEncodeBits.mono _ _
   | exact spec_DrawPackBits.mono _ _
   | exact spec_EncodeBits.mono _ _ _
   | exact spec_PackBits.mono _ _
   | exact LeO.none _
   | refine LeO.ite ?_ ?_
   | refine LeO.bind ?_ (fun _ => ?_)
theorem laws_FnBits.mono : ∀ a0 a1 k, LeO (laws_FnBits.f k a0 a1) (laws_FnBits.f (k + 1) a0 a1) := by
 intro a0 a1 k
 obtain ⟨ih0, ih1, ih2⟩ := laws_FnBits.mono_l k
 unfold laws_FnBits.f
 repeat' first
   | (with_reducible exact ih0 _ _ _ _ _ _)
   | (with_reducible exact ih1 _)
   | (with_reducible exact ih2 _ _ _ _ _ _)
   | (with_reducible exact impl_DecodeBits.mono _ _ _)
   | (with_reducible exact impl_EncodeBits.mono _ _ _)
   | (with_reducible exact impl_PackBits.mono _ _)
   | (with_reducible exact impl_UnpackBits.mono _ _ _)
   | (with_reducible exact laws_sameInts.mono _ _ _)
   | (with_reducible exact spec_DecodeBits.mono _ _ _)
   | (with_reducible exact spec_DrawDecodeBits.mono _ _)
   | (with_reducible exact spec_DrawEncodeBits.mono _ _)
   | (with_reducible exact spec_DrawPackBits.mono _ _)
   | (with_reducible exact spec_EncodeBits.mono _ _ _)
   | (with_reducible exact spec_PackBits.mono _ _)
   | (with_reducible exact LeO.refl _)
   | (with_reducible exact LeO.none _)
   | (with_reducible refine LeO.ite ?_ ?_)
   | (with_reducible refine LeO.bind ?_ (fun _ => ?_))
   | exact ih0 _ _ _ _ _ _
   | exact ih1 _
   | exact ih2 _ _ _ _ _ _
   | exact impl_DecodeBits.mono _ _ _
   | exact impl_EncodeBits.mono _ _ _
   | exact impl_PackBits.mono _ _
   | exact impl_UnpackBits.mono _ _ _
   | exact laws_sameInts.mono _ _ _
   | exact spec_DecodeBits.mono _ _ _
   | exact spec_DrawDecodeBits.mono _ _
   | exact spec_DrawEncodeBits.mono _ _
   | exact spec_DrawPackBits.mono _ _
   | exact spec_EncodeBits.mono _ _ _
   | exact spec_PackBits.mono _ _
   | exact LeO.none _
   | refine LeO.ite ?_ ?_
   | refine LeO.bind ?_ (fun _ => ?_)
set_option maxHeartbeats 8000000 in
set_option maxRecDepth 100000 in
theorem laws_FnBits.calls (k : Nat) (A0 : Option Addr) (c0 : Nat) (l0 : List Int) (A1 : Option Addr) (c1 : Nat) (l1 : List Int) (r : Bool) (w : World) (hr0 : Kd.C (Kd.int .u8) w A0 l0.length l0) (hc0 : l0.length ≤ c0) (hr1 : Kd.C (Kd.int .u8) w A1 l1.length l1) (hc1 : l1.length ≤ c1) (h : laws_FnBits.f k l0 l1 = some r) :
  Calls Tryd.prog 5 #[.slice A0 l0.length c0, .slice A1 l1.length c1] w fun e w' => e = .returned (.bool r) ∧ Below w.heap.size w w' := by
 have HR0 := Aside0.mk hr0
 have HC0 := Aside0.mk hc0
 clear hr0 hc0
 have HR1 := Aside0.mk hr1
 have HC1 := Aside0.mk hc1
 clear hr1 hc1
 have HB := Aside0.mk (Below.refl w.heap.size w)
 have H : (if (wrap64 ((l0.length : Int) + (l1.length : Int))) > 1048576 then (some true) else ((spec_DrawEncodeBits.f k l0).bind fun bt374 => ((impl_EncodeBits.f k bt374.1 bt374.2).bind fun bt380 => ((spec_EncodeBits.f k bt374.1 bt374.2).bind fun bt382 => (if (bt380.2 != bt382.2) = true then (laws_FnBits.j0 k l1 bt374.1 bt374.2 bt380.1 bt380.2 true) else (laws_FnBits.j0 k l1 bt374.1 bt374.2 bt380.1 bt380.2 (bt380.1.toList != bt382.1.toList))))))) = some r := h
 clear h
 by_cases c3 : (wrap64 ((l0.length : Int) + (l1.length : Int))) > 1048576
 ·rw [if_pos c3] at H
  have c3b0 : decide (1048576 < (wrap64 ((l0.length : Int) + (l1.length : Int)))) = true := decide_eq_true c3
  clear c3
  obtain rfl := Option.some.inj H
  go_enter Tryd.func5, Tryd.ntmps5
  go_wp2
  go_ret
  exact ⟨by first | rfl | (simp [errW_none, errW_some] <;> rfl) | (simp [*, errW_none, errW_some] <;> rfl), bl HB.out⟩
 ·rw [if_neg c3] at H
  have c3b0 : decide (1048576 < (wrap64 ((l0.length : Int) + (l1.length : Int)))) = false := decide_eq_false c3
  clear c3
  replace H := Option.bind_eq_some_iff.mp H
  obtain ⟨⟨t374, t375⟩, A40, H⟩ := H
  try dsimp only at H
  have A4 := Aside0.mk A40
  clear A40
  replace H := Option.bind_eq_some_iff.mp H
  obtain ⟨⟨t380, t381⟩, A50, H⟩ := H
  try dsimp only at H
  have A5 := Aside0.mk A50
  clear A50
  replace H := Option.bind_eq_some_iff.mp H
  obtain ⟨⟨t382, t383⟩, A60, H⟩ := H
  try dsimp only at H
  have A6 := Aside0.mk A60
  clear A60
  have HC7 := Aside0.mk H
  clear H
  go_enter Tryd.func5, Tryd.ntmps5
  go_upto_region 6 with (first | ((with_reducible refine gate_callee (f := 14) rfl ?_); refine goesL_ (some 36) rfl rfl Tryd.func14 (by kernel_rfl) rfl #[.slice A0 l0.length c0] rfl (by (try simp only [List.map_toArray, List.map_cons, List.map_nil]); first | done | rfl | (simp only [List.length_drop, List.length_take]; rfl)) ?_; (with_reducible refine (spec_DrawEncodeBits.calls k _ _ l0 t374 t375 _ ?side1 ?side2 A4.out).mono ?_); (case side1 => exact kc HR0.out); (case side2 => exact HC0.out); rintro e w8 ⟨v376, v378, rfl, ho0, ho1, hb⟩; refine ⟨_, rfl, ?_⟩; have n0_ := Aside0.mk (Kd.R_lower ho0 (below_size (bl HB.out))); have n1_ := Aside0.mk (Kd.R_lower ho1 (below_size (bl HB.out))); have n2_ := Aside0.mk (below_step (bl HB.out) hb); clear HB; have HO377 := n0_; have HO379 := n1_; have HB := n2_; clear n0_ n1_ n2_; (try clear hb); (try clear hb2); (try clear hk); (try clear hi); (try clear ho0); (try clear ho1); obtain ⟨Ao9, co9, eo9⟩ := Kd.R_slice HO377.out; subst eo9; obtain ⟨Ao10, co10, eo10⟩ := Kd.R_slice HO379.out; subst eo10) | ((with_reducible refine gate_callee (f := 15) rfl ?_); refine goesL_ (some 42) rfl rfl Tryd.func15 (by kernel_rfl) rfl #[.slice Ao9 t374.length co9, .slice Ao10 t375.length co10] rfl (by (try simp only [List.map_toArray, List.map_cons, List.map_nil]); first | done | rfl | (simp only [List.length_drop, List.length_take]; rfl)) ?_; (with_reducible refine (impl_EncodeBits.calls k _ _ t374 _ _ t375 t380 t381 _ ?side1 ?side2 ?side3 ?side4 A5.out).mono ?_); (case side1 => exact kc (Kd.R_reads' HO377.out).2.2); (case side2 => exact (Kd.R_reads' HO377.out).2.1); (case side3 => exact kc (Kd.R_reads' HO379.out).2.2); (case side4 => exact (Kd.R_reads' HO379.out).2.1); rintro e w11 ⟨rfl, hb⟩; refine ⟨_, rfl, ?_⟩; have n0_ := Aside0.mk (Kd.R_below (kr HO377.out) hb); have n1_ := Aside0.mk (Kd.R_below (kr HO379.out) hb); have n2_ := Aside0.mk (below_step (bl HB.out) hb); clear HO377; clear HO379; clear HB; have HO377 := n0_; have HO379 := n1_; have HB := n2_; clear n0_ n1_ n2_; (try clear hb); (try clear hb2); (try clear hk); (try clear hi)) | ((with_reducible refine gate_callee (f := 16) rfl ?_); refine goesL_ (some 48) rfl rfl Tryd.func16 (by kernel_rfl) rfl #[.slice Ao9 t374.length co9, .slice Ao10 t375.length co10] rfl (by (try simp only [List.map_toArray, List.map_cons, List.map_nil]); first | done | rfl | (simp only [List.length_drop, List.length_take]; rfl)) ?_; (with_reducible refine (spec_EncodeBits.calls k _ _ t374 _ _ t375 t382 t383 _ ?side1 ?side2 ?side3 ?side4 A6.out).mono ?_); (case side1 => exact kc (Kd.R_reads' HO377.out).2.2); (case side2 => exact (Kd.R_reads' HO377.out).2.1); (case side3 => exact kc (Kd.R_reads' HO379.out).2.2); (case side4 => exact (Kd.R_reads' HO379.out).2.1); rintro e w12 ⟨rfl, hb⟩; refine ⟨_, rfl, ?_⟩; have n0_ := Aside0.mk (Kd.R_below (kr HO377.out) hb); have n1_ := Aside0.mk (Kd.R_below (kr HO379.out) hb); have n2_ := Aside0.mk (below_step (bl HB.out) hb); clear HO377; clear HO379; clear HB; have HO377 := n0_; have HO379 := n1_; have HB := n2_; clear n0_ n1_ n2_; (try clear hb); (try clear hb2); (try clear hk); (try clear hi)))
  (try simp only [Act.put, List.setIfInBounds_toArray, List.set_cons_zero, List.set_cons_succ])
  go_cut [58] (fun v58 wc => ∃ (kq : Nat) (x58_6 : Bool), v58 = .bool x58_6 ∧ Aside0 (laws_FnBits.j0 kq l1 t374 t375 t380 t381 x58_6 = some r) ∧ Aside0 (kq ≤ k) ∧ Aside0 (Kd.R (Kd.int .i64) 3 wc w.heap.size (fun k_ => some k_ ≠ ((.slice Ao10 t375.length co10) : Value).ownBlock) (.slice Ao9 t374.length co9) t374) ∧ Aside0 (Kd.R (Kd.int .i64) 3 wc w.heap.size (fun k_ => some k_ ≠ ((.slice Ao9 t374.length co9) : Value).ownBlock) (.slice Ao10 t375.length co10) t375) ∧ Aside0 (Below w.heap.size w wc))
  case first =>
   have H := HC7.out
   clear HC7
   by_cases c13 : (t381 != t383) = true
   ·rw [if_pos c13] at H
    have c13b0 : (t381 != t383) = true := c13
    (try (have c13b1 : decide (t381 = t383) = false := by simpa using c13))
    (try (have c13b2 : (t381 == t383) = false := by simpa using c13))
    (try (have c13b3 : ¬ (t381 = t383) := by simpa using c13))
    clear c13
    (first | rw [c13b0] | (simp only [i64_w, i32_w]; rw [c13b0]) | skip)
    have H' := Aside0.mk H
    clear H
    go_wp2
    go_meet
    case rel => exact ⟨_, (true), (by first | rfl | (simp; done) | (simp [*]; done)), H', ⟨by first | omega | exact Nat.le_refl _⟩, ⟨kr HO377.out⟩, ⟨kr HO379.out⟩, ⟨bl HB.out⟩⟩
   ·rw [if_neg c13] at H
    have c13b0 : (t381 != t383) = false := by simpa using c13
    (try (have c13b1 : decide (t381 = t383) = true := by simpa using c13))
    (try (have c13b2 : (t381 == t383) = true := by simpa using c13))
    clear c13
    (first | rw [c13b0] | (simp only [i64_w, i32_w]; rw [c13b0]) | skip)
    have H' := Aside0.mk H
    clear H
    go_wp2
    go_meet
    case rel => exact ⟨_, ((t380.toList != t382.toList)), (by first | rfl | (simp; done) | (simp [*]; done)), H', ⟨by first | omega | exact Nat.le_refl _⟩, ⟨kr HO377.out⟩, ⟨kr HO379.out⟩, ⟨bl HB.out⟩⟩
  case rest =>
   clear HC7
   try clear c1
   try clear p2
   try clear c3
   try clear c3b0
   try clear c5
   try clear p6
   try clear c13
   try clear c13b0
   try clear c13b1
   try clear c13b2
   obtain ⟨kq, x58_6, rfl, HA, HJ6, HO_5, HO_6, HB⟩ := hcut
   cases kq with
   | zero => exact absurd HA.out (by simp [laws_FnBits.j0])
   | succ kj6 =>
    have H := HA.out
    clear HA
    simp only [laws_FnBits.j0] at H
    by_cases c14 : x58_6 = true
    ·subst c14
     have H1 : (none) = some r := by rw [if_pos rfl] at H; exact H
     clear H
     have H := H1
     clear H1
     exact absurd H (by simp)
    ·replace c14 := Bool.eq_false_iff.mpr c14
     subst c14
     have H1 : (if t381 = true then ((impl_DecodeBits.f kj6 t374 t380).bind fun bt384 => (if bt384.2 = true then ((laws_sameInts.f kj6 bt384.1 t375).bind fun t388 => (if t388 = true then (laws_FnBits.j1 kj6 l1) else (none))) else (none))) else (laws_FnBits.j1 kj6 l1)) = some r := by rw [if_neg (show ¬ (false = true) by decide)] at H; exact H
     clear H
     have H := H1
     clear H1
     have HC15 := Aside0.mk H
     clear H
     go_upto_if 59 with (fail)
     go_cut [] (fun wc => ∃ (kq : Nat), Aside0 (laws_FnBits.j1 kq l1 = some r) ∧ Aside0 (kq ≤ kj6) ∧ Aside0 (Below w.heap.size w wc))
     case first =>
      have H := HC15.out
      clear HC15
      by_cases c16 : t381 = true
      ·subst c16
       have H1 : ((impl_DecodeBits.f kj6 t374 t380).bind fun bt384 => (if bt384.2 = true then ((laws_sameInts.f kj6 bt384.1 t375).bind fun t388 => (if t388 = true then (laws_FnBits.j1 kj6 l1) else (none))) else (none))) = some r := by rw [if_pos rfl] at H; exact H
       clear H
       have H := H1
       clear H1
       replace H := Option.bind_eq_some_iff.mp H
       obtain ⟨⟨t384, t385⟩, A170, H⟩ := H
       try dsimp only at H
       have A17 := Aside0.mk A170
       clear A170
       by_cases c18 : t385 = true
       ·subst c18
        have H1 : ((laws_sameInts.f kj6 t384 t375).bind fun t388 => (if t388 = true then (laws_FnBits.j1 kj6 l1) else (none))) = some r := by rw [if_pos rfl] at H; exact H
        clear H
        have H := H1
        clear H1
        replace H := Option.bind_eq_some_iff.mp H
        obtain ⟨t388, A190, H⟩ := H
        try dsimp only at H
        have A19 := Aside0.mk A190
        clear A190
        by_cases c20 : t388 = true
        ·subst c20
         have H1 : (laws_FnBits.j1 kj6 l1) = some r := by rw [if_pos rfl] at H; exact H
         clear H
         have H := H1
         clear H1
         have H' := Aside0.mk H
         clear H
         go_wp2_with (first | ((with_reducible refine gate_callee (f := 8) rfl ?_); refine goesL_ (some 63) rfl rfl Tryd.func8 (by kernel_rfl) rfl #[.slice Ao9 t374.length co9, .string t380] rfl (by (try simp only [List.map_toArray, List.map_cons, List.map_nil]); first | done | rfl | (simp only [List.length_drop, List.length_take]; rfl)) ?_; (with_reducible refine (impl_DecodeBits.calls kj6 _ _ t374 t380 t384 true _ ?side1 ?side2 A17.out).mono ?_); (case side1 => exact kc (Kd.R_reads' HO_5.out).2.2); (case side2 => exact (Kd.R_reads' HO_5.out).2.1); rintro e w21 ⟨v386, rfl, ho0, hb⟩; refine ⟨_, rfl, ?_⟩; have n0_ := Aside0.mk (Kd.R_elder' (kr HO_5.out) (Kd.R_base ho0) hb); have n1_ := Aside0.mk (Kd.R_elder' (kr HO_6.out) (Kd.R_base ho0) hb); have n2_ := Aside0.mk (Kd.R_lower (Kd.R_new' (Kd.R_new' ho0 (Kd.R_lt (kr HO_5.out))) (Kd.R_lt (kr HO_6.out))) (below_size (bl HB.out))); have n3_ := Aside0.mk (below_step (bl HB.out) hb); clear HO_5; clear HO_6; clear HB; have HO_5 := n0_; have HO_6 := n1_; have HO387 := n2_; have HB := n3_; clear n0_ n1_ n2_ n3_; (try clear hb); (try clear hb2); (try clear hk); (try clear hi); (try clear ho0); obtain ⟨Ao22, co22, eo22⟩ := Kd.R_slice HO387.out; subst eo22) | (go_at_call 17; (with_reducible refine (laws_sameInts.calls kj6 _ _ t384 _ _ t375 true _ ?side1 ?side2 ?side3 ?side4 A19.out).mono ?_); (case side1 => exact kc (Kd.R_reads' HO387.out).2.2); (case side2 => exact (Kd.R_reads' HO387.out).2.1); (case side3 => exact kc (Kd.R_reads' HO_6.out).2.2); (case side4 => exact (Kd.R_reads' HO_6.out).2.1); rintro e w' ⟨rfl, ⟨nd, rfl⟩⟩))
         go_meet
         case rel => exact ⟨_, H', ⟨by have := HJ6.out; first | omega | exact Nat.le_refl _⟩, ⟨bl HB.out⟩⟩
        ·replace c20 := Bool.eq_false_iff.mpr c20
         subst c20
         have H1 : (none) = some r := by rw [if_neg (show ¬ (false = true) by decide)] at H; exact H
         clear H
         have H := H1
         clear H1
         exact absurd H (by simp)
       ·replace c18 := Bool.eq_false_iff.mpr c18
        subst c18
        have H1 : (none) = some r := by rw [if_neg (show ¬ (false = true) by decide)] at H; exact H
        clear H
        have H := H1
        clear H1
        exact absurd H (by simp)
      ·replace c16 := Bool.eq_false_iff.mpr c16
       subst c16
       have H1 : (laws_FnBits.j1 kj6 l1) = some r := by rw [if_neg (show ¬ (false = true) by decide)] at H; exact H
       clear H
       have H := H1
       clear H1
       have H' := Aside0.mk H
       clear H
       go_wp2
       go_meet
       case rel => exact ⟨_, H', ⟨by have := HJ6.out; first | omega | exact Nat.le_refl _⟩, ⟨bl HB.out⟩⟩
     case rest =>
      clear HC15
      try clear c1
      try clear c2
      try clear p2
      try clear c3
      try clear c3b0
      try clear c5
      try clear p6
      try clear c8
      try clear c13
      try clear c13b0
      try clear c13b1
      try clear c13b2
      try clear c14
      try clear c15
      try clear c16
      try clear c18
      try clear c20
      try clear p2
      try clear p6
      obtain ⟨kq, HA, HJ14, HB⟩ := hcut
      cases kq with
      | zero => exact absurd HA.out (by simp [laws_FnBits.j1])
      | succ kj14 =>
       have H := HA.out
       clear HA
       simp only [laws_FnBits.j1] at H
       replace H := Option.bind_eq_some_iff.mp H
       obtain ⟨t389, A230, H⟩ := H
       try dsimp only at H
       have A23 := Aside0.mk A230
       clear A230
       replace H := Option.bind_eq_some_iff.mp H
       obtain ⟨⟨t390, t391, t392⟩, A240, H⟩ := H
       try dsimp only at H
       have A24 := Aside0.mk A240
       clear A240
       replace H := Option.bind_eq_some_iff.mp H
       obtain ⟨⟨t393, t394, t395⟩, A250, H⟩ := H
       try dsimp only at H
       have A25 := Aside0.mk A250
       clear A250
       have HC26 := Aside0.mk H
       clear H
       go_upto_region 15 with (first | ((with_reducible refine gate_callee (f := 18) rfl ?_); refine goesL_ (some 75) rfl rfl Tryd.func18 (by kernel_rfl) rfl #[.slice A1 l1.length c1] rfl (by (try simp only [List.map_toArray, List.map_cons, List.map_nil]); first | done | rfl | (simp only [List.length_drop, List.length_take]; rfl)) ?_; (with_reducible refine (spec_DrawPackBits.calls kj14 _ _ l1 t389 _ ?side1 ?side2 A23.out).mono ?_); (case side1 => exact kc (Kd.C_below HR1.out HB.out)); (case side2 => exact HC1.out); rintro e w27 ⟨rfl, hb⟩; refine ⟨_, rfl, ?_⟩; have n0_ := Aside0.mk (below_step (bl HB.out) hb); clear HB; have HB := n0_; clear n0_; (try clear hb); (try clear hb2); (try clear hk); (try clear hi)) | ((with_reducible refine gate_callee (f := 13) rfl ?_); refine goesL_ (some 78) rfl rfl Tryd.func13 (by kernel_rfl) rfl #[.string t389] rfl (by (try simp only [List.map_toArray, List.map_cons, List.map_nil]); first | done | rfl | (simp only [List.length_drop, List.length_take]; rfl)) ?_; (with_reducible refine (impl_PackBits.calls kj14 t389 t390 t391 t392 _ A24.out).mono ?_); rintro e w28 ⟨rfl, hb⟩; refine ⟨_, rfl, ?_⟩; have n0_ := Aside0.mk (below_step (bl HB.out) hb); clear HB; have HB := n0_; clear n0_; (try clear hb); (try clear hb2); (try clear hk); (try clear hi)) | ((with_reducible refine gate_callee (f := 12) rfl ?_); refine goesL_ (some 84) rfl rfl Tryd.func12 (by kernel_rfl) rfl #[.string t389] rfl (by (try simp only [List.map_toArray, List.map_cons, List.map_nil]); first | done | rfl | (simp only [List.length_drop, List.length_take]; rfl)) ?_; (with_reducible refine (spec_PackBits.calls kj14 t389 t393 t394 t395 _ A25.out).mono ?_); rintro e w29 ⟨rfl, hb⟩; refine ⟨_, rfl, ?_⟩; have n0_ := Aside0.mk (below_step (bl HB.out) hb); clear HB; have HB := n0_; clear n0_; (try clear hb); (try clear hb2); (try clear hk); (try clear hi)))
       (try simp only [Act.put, List.setIfInBounds_toArray, List.set_cons_zero, List.set_cons_succ])
       go_cut [95] (fun v95 wc => ∃ (kq : Nat) (x95_25 : Bool), v95 = .bool x95_25 ∧ Aside0 (laws_FnBits.j2 kq l1 t389 t390 t391 t392 x95_25 = some r) ∧ Aside0 (kq ≤ kj14) ∧ Aside0 (Below w.heap.size w wc))
       case first =>
        have H := HC26.out
        clear HC26
        by_cases c30 : (t392 != t395) = true
        ·rw [if_pos c30] at H
         have c30b0 : (t392 != t395) = true := c30
         (try (have c30b1 : decide (t392 = t395) = false := by simpa using c30))
         (try (have c30b2 : (t392 == t395) = false := by simpa using c30))
         (try (have c30b3 : ¬ (t392 = t395) := by simpa using c30))
         clear c30
         (first | rw [c30b0] | (simp only [i64_w, i32_w]; rw [c30b0]) | skip)
         have H' := Aside0.mk H
         clear H
         go_wp2
         go_meet
         case rel => exact ⟨_, (true), (by first | rfl | (simp; done) | (simp [*]; done)), H', ⟨by have := HJ6.out; have := HJ14.out; first | omega | exact Nat.le_refl _⟩, ⟨bl HB.out⟩⟩
        ·rw [if_neg c30] at H
         have c30b0 : (t392 != t395) = false := by simpa using c30
         (try (have c30b1 : decide (t392 = t395) = true := by simpa using c30))
         (try (have c30b2 : (t392 == t395) = true := by simpa using c30))
         clear c30
         (first | rw [c30b0] | (simp only [i64_w, i32_w]; rw [c30b0]) | skip)
         have H' := Aside0.mk H
         clear H
         go_wp2
         go_meet
         case rel => exact ⟨_, ((t391 != t394)), (by first | rfl | (simp; done) | (simp [*]; done)), H', ⟨by have := HJ6.out; have := HJ14.out; first | omega | exact Nat.le_refl _⟩, ⟨bl HB.out⟩⟩
       case rest =>
        clear HC26
        try clear c1
        try clear c2
        try clear p2
        try clear c3
        try clear c3b0
        try clear c5
        try clear p6
        try clear c8
        try clear c12
        try clear c13
        try clear c13b0
        try clear c13b1
        try clear c13b2
        try clear c14
        try clear c15
        try clear c16
        try clear c18
        try clear c20
        try clear c30
        try clear c30b0
        try clear c30b1
        try clear c30b2
        try clear p2
        try clear p6
        obtain ⟨kq, x95_25, rfl, HA, HJ25, HB⟩ := hcut
        cases kq with
        | zero => exact absurd HA.out (by simp [laws_FnBits.j2])
        | succ kj25 =>
         have H := HA.out
         clear HA
         simp only [laws_FnBits.j2] at H
         by_cases c31 : x95_25 = true
         ·subst c31
          have H1 : (none) = some r := by rw [if_pos rfl] at H; exact H
          clear H
          have H := H1
          clear H1
          exact absurd H (by simp)
         ·replace c31 := Bool.eq_false_iff.mpr c31
          subst c31
          have H1 : (if t392 = true then ((impl_UnpackBits.f kj25 t390 t391).bind fun bt396 => ((spec_DrawDecodeBits.f kj25 l1).bind fun bt398 => ((impl_DecodeBits.f kj25 bt398.1 bt398.2).bind fun bt402 => ((spec_DecodeBits.f kj25 bt398.1 bt398.2).bind fun bt406 => (if bt396.2 = true then (if bt396.1.toList = t389.toList then (if (t390.size : Int) = (wrap64 (Int.tdiv (wrap64 ((t389.size : Int) + 7)) 8)) then (if (bt402.2 == bt406.2) = true then ((laws_sameInts.f kj25 bt402.1 bt406.1).bind fun t410 => (some t410)) else (none)) else (none)) else (none)) else (none)))))) else (some (t390.toList == ([] : List UInt8)))) = some r := by rw [if_neg (show ¬ (false = true) by decide)] at H; exact H
          clear H
          have H := H1
          clear H1
          by_cases c32 : t392 = true
          ·subst c32
           have H1 : ((impl_UnpackBits.f kj25 t390 t391).bind fun bt396 => ((spec_DrawDecodeBits.f kj25 l1).bind fun bt398 => ((impl_DecodeBits.f kj25 bt398.1 bt398.2).bind fun bt402 => ((spec_DecodeBits.f kj25 bt398.1 bt398.2).bind fun bt406 => (if bt396.2 = true then (if bt396.1.toList = t389.toList then (if (t390.size : Int) = (wrap64 (Int.tdiv (wrap64 ((t389.size : Int) + 7)) 8)) then (if (bt402.2 == bt406.2) = true then ((laws_sameInts.f kj25 bt402.1 bt406.1).bind fun t410 => (some t410)) else (none)) else (none)) else (none)) else (none)))))) = some r := by rw [if_pos rfl] at H; exact H
           clear H
           have H := H1
           clear H1
           replace H := Option.bind_eq_some_iff.mp H
           obtain ⟨⟨t396, t397⟩, A330, H⟩ := H
           try dsimp only at H
           have A33 := Aside0.mk A330
           clear A330
           replace H := Option.bind_eq_some_iff.mp H
           obtain ⟨⟨t398, t399⟩, A340, H⟩ := H
           try dsimp only at H
           have A34 := Aside0.mk A340
           clear A340
           replace H := Option.bind_eq_some_iff.mp H
           obtain ⟨⟨t402, t403⟩, A350, H⟩ := H
           try dsimp only at H
           have A35 := Aside0.mk A350
           clear A350
           replace H := Option.bind_eq_some_iff.mp H
           obtain ⟨⟨t406, t407⟩, A360, H⟩ := H
           try dsimp only at H
           have A36 := Aside0.mk A360
           clear A360
           by_cases c37 : t397 = true
           ·subst c37
            have H1 : (if t396.toList = t389.toList then (if (t390.size : Int) = (wrap64 (Int.tdiv (wrap64 ((t389.size : Int) + 7)) 8)) then (if (t403 == t407) = true then ((laws_sameInts.f kj25 t402 t406).bind fun t410 => (some t410)) else (none)) else (none)) else (none)) = some r := by rw [if_pos rfl] at H; exact H
            clear H
            have H := H1
            clear H1
            by_cases c38 : t396.toList = t389.toList
            ·rw [if_pos c38] at H
             have c38b0 : (t396.toList == t389.toList) = true := beq_iff_eq.mpr c38
             have c38b1 : (t396.toList != t389.toList) = false := bne_eq_false_iff_eq.mpr c38
             clear c38
             by_cases c39 : (t390.size : Int) = (wrap64 (Int.tdiv (wrap64 ((t389.size : Int) + 7)) 8))
             ·rw [if_pos c39] at H
              have c39b0 : ((t390.size : Int) == (wrap64 (Int.tdiv (wrap64 ((t389.size : Int) + 7)) 8))) = true := beq_iff_eq.mpr c39
              have c39b1 : ((t390.size : Int) != (wrap64 (Int.tdiv (wrap64 ((t389.size : Int) + 7)) 8))) = false := bne_eq_false_iff_eq.mpr c39
              clear c39
              by_cases c40 : (t403 == t407) = true
              ·rw [if_pos c40] at H
               have c40b0 : (t403 == t407) = true := c40
               (try (have c40b1 : decide (t403 = t407) = true := by simpa using c40))
               (try (have c40b2 : (t403 == t407) = true := by simpa using c40))
               clear c40
               replace H := Option.bind_eq_some_iff.mp H
               obtain ⟨t410, A410, H⟩ := H
               try dsimp only at H
               have A41 := Aside0.mk A410
               clear A410
               obtain rfl := Option.some.inj H
               go_wp2_with (first | ((with_reducible refine gate_callee (f := 19) rfl ?_); refine goesL_ (some 103) rfl rfl Tryd.func19 (by kernel_rfl) rfl #[.string t390, .int .i64 t391] rfl (by (try simp only [List.map_toArray, List.map_cons, List.map_nil]); first | done | rfl | (simp only [List.length_drop, List.length_take]; rfl)) ?_; (with_reducible refine (impl_UnpackBits.calls kj25 t390 t391 t396 true _ A33.out).mono ?_); rintro e w42 ⟨rfl, hb⟩; refine ⟨_, rfl, ?_⟩; have n0_ := Aside0.mk (below_step (bl HB.out) hb); clear HB; have HB := n0_; clear n0_; (try clear hb); (try clear hb2); (try clear hk); (try clear hi)) | ((with_reducible refine gate_callee (f := 20) rfl ?_); refine goesL_ (some 108) rfl rfl Tryd.func20 (by kernel_rfl) rfl #[.slice A1 l1.length c1] rfl (by (try simp only [List.map_toArray, List.map_cons, List.map_nil]); first | done | rfl | (simp only [List.length_drop, List.length_take]; rfl)) ?_; (with_reducible refine (spec_DrawDecodeBits.calls kj25 _ _ l1 t398 t399 _ ?side1 ?side2 A34.out).mono ?_); (case side1 => exact kc (Kd.C_below HR1.out HB.out)); (case side2 => exact HC1.out); rintro e w43 ⟨v400, rfl, ho0, hb⟩; refine ⟨_, rfl, ?_⟩; have n0_ := Aside0.mk (Kd.R_lower ho0 (below_size (bl HB.out))); have n1_ := Aside0.mk (below_step (bl HB.out) hb); clear HB; have HO401 := n0_; have HB := n1_; clear n0_ n1_; (try clear hb); (try clear hb2); (try clear hk); (try clear hi); (try clear ho0); obtain ⟨Ao44, co44, eo44⟩ := Kd.R_slice HO401.out; subst eo44) | ((with_reducible refine gate_callee (f := 8) rfl ?_); refine goesL_ (some 114) rfl rfl Tryd.func8 (by kernel_rfl) rfl #[.slice Ao44 t398.length co44, .string t399] rfl (by (try simp only [List.map_toArray, List.map_cons, List.map_nil]); first | done | rfl | (simp only [List.length_drop, List.length_take]; rfl)) ?_; (with_reducible refine (impl_DecodeBits.calls kj25 _ _ t398 t399 t402 t403 _ ?side1 ?side2 A35.out).mono ?_); (case side1 => exact kc (Kd.R_reads' HO401.out).2.2); (case side2 => exact (Kd.R_reads' HO401.out).2.1); rintro e w45 ⟨v404, rfl, ho0, hb⟩; refine ⟨_, rfl, ?_⟩; have n0_ := Aside0.mk (Kd.R_elder' (kr HO401.out) (Kd.R_base ho0) hb); have n1_ := Aside0.mk (Kd.R_lower (Kd.R_new' ho0 (Kd.R_lt (kr HO401.out))) (below_size (bl HB.out))); have n2_ := Aside0.mk (below_step (bl HB.out) hb); clear HO401; clear HB; have HO401 := n0_; have HO405 := n1_; have HB := n2_; clear n0_ n1_ n2_; (try clear hb); (try clear hb2); (try clear hk); (try clear hi); (try clear ho0)) | ((with_reducible refine gate_callee (f := 6) rfl ?_); refine goesL_ (some 120) rfl rfl Tryd.func6 (by kernel_rfl) rfl #[.slice Ao44 t398.length co44, .string t399] rfl (by (try simp only [List.map_toArray, List.map_cons, List.map_nil]); first | done | rfl | (simp only [List.length_drop, List.length_take]; rfl)) ?_; (with_reducible refine (spec_DecodeBits.calls kj25 _ _ t398 t399 t406 t407 _ ?side1 ?side2 A36.out).mono ?_); (case side1 => exact kc (Kd.R_reads' HO401.out).2.2); (case side2 => exact (Kd.R_reads' HO401.out).2.1); rintro e w46 ⟨v408, rfl, ho0, hb⟩; refine ⟨_, rfl, ?_⟩; have n0_ := Aside0.mk (Kd.R_elder' (kr HO401.out) (Kd.R_base ho0) hb); have n1_ := Aside0.mk (Kd.R_elder' (kr HO405.out) (Kd.R_base ho0) hb); have n2_ := Aside0.mk (Kd.R_lower (Kd.R_new' (Kd.R_new' ho0 (Kd.R_lt (kr HO401.out))) (Kd.R_lt (kr HO405.out))) (below_size (bl HB.out))); have n3_ := Aside0.mk (below_step (bl HB.out) hb); clear HO401; clear HO405; clear HB; have HO401 := n0_; have HO405 := n1_; have HO409 := n2_; have HB := n3_; clear n0_ n1_ n2_ n3_; (try clear hb); (try clear hb2); (try clear hk); (try clear hi); (try clear ho0); obtain ⟨Ao47, co47, eo47⟩ := Kd.R_slice HO405.out; subst eo47; obtain ⟨Ao48, co48, eo48⟩ := Kd.R_slice HO409.out; subst eo48) | (go_at_call 17; (with_reducible refine (laws_sameInts.calls kj25 _ _ t402 _ _ t406 t410 _ ?side1 ?side2 ?side3 ?side4 A41.out).mono ?_); (case side1 => exact kc (Kd.R_reads' HO405.out).2.2); (case side2 => exact (Kd.R_reads' HO405.out).2.1); (case side3 => exact kc (Kd.R_reads' HO409.out).2.2); (case side4 => exact (Kd.R_reads' HO409.out).2.1); rintro e w' ⟨rfl, ⟨nd, rfl⟩⟩))
               go_ret
               exact ⟨by first | rfl | (simp [errW_none, errW_some] <;> rfl) | (simp [*, errW_none, errW_some] <;> rfl), bl HB.out⟩
              ·rw [if_neg c40] at H
               exact absurd H (by simp)
             ·rw [if_neg c39] at H
              exact absurd H (by simp)
            ·rw [if_neg c38] at H
             exact absurd H (by simp)
           ·replace c37 := Bool.eq_false_iff.mpr c37
            subst c37
            have H1 : (none) = some r := by rw [if_neg (show ¬ (false = true) by decide)] at H; exact H
            clear H
            have H := H1
            clear H1
            exact absurd H (by simp)
          ·replace c32 := Bool.eq_false_iff.mpr c32
           subst c32
           have H1 : (some (t390.toList == ([] : List UInt8))) = some r := by rw [if_neg (show ¬ (false = true) by decide)] at H; exact H
           clear H
           have H := H1
           clear H1
           obtain rfl := Option.some.inj H
           go_wp2
           go_ret
           exact ⟨by first | rfl | (simp [errW_none, errW_some] <;> rfl) | (simp [*, errW_none, errW_some] <;> rfl), bl HB.out⟩

/-- THE ONE PURE STATEMENT of laws_FnBits: yours. -/
def laws_FnBits.Pure : Prop := ∀ (l0 : List Int) (l1 : List Int), l0.length ≤ maxLen → l0.length * 1 ≤ 140737488351232 → (∀ x ∈ l0, (Lit.int .u8 x).wf = true) → l1.length ≤ maxLen → l1.length * 1 ≤ 140737488351232 → (∀ x ∈ l1, (Lit.int .u8 x).wf = true) → ∃ k, laws_FnBits.f k l0 l1 = some true
theorem laws_FnBits.walk (P : laws_FnBits.Pure) (a0 : Option Addr) (len0 cap0 : Nat) (z0 : List Int) (a1 : Option Addr) (len1 cap1 : Nat) (z1 : List Int) (w : World) (w0 : (a0 = none ∧ len0 = 0 ∧ cap0 = 0 ∧ z0 = []) ∨ ∃ x, a0 = some x ∧ len0 ≤ cap0 ∧ cap0 ≤ maxLen ∧ z0.length = cap0 ∧ (∀ i, i < z0.length → w.cell? (x.add i) = some (.int .u8 (z0.getD i 0))) ∧ ∀ n ∈ z0, (Lit.int .u8 n).wf = true) (y0 : len0 * 1 ≤ 140737488351232) (w1 : (a1 = none ∧ len1 = 0 ∧ cap1 = 0 ∧ z1 = []) ∨ ∃ x, a1 = some x ∧ len1 ≤ cap1 ∧ cap1 ≤ maxLen ∧ z1.length = cap1 ∧ (∀ i, i < z1.length → w.cell? (x.add i) = some (.int .u8 (z1.getD i 0))) ∧ ∀ n ∈ z1, (Lit.int .u8 n).wf = true) (y1 : len1 * 1 ≤ 140737488351232) :
  Calls Tryd.prog 5 #[.slice a0 len0 cap0, .slice a1 len1 cap1] w fun e w' => e = .returned (.bool true) ∧ Below w.heap.size w w' := by
 obtain ⟨l0, rfl, hr0, hm0, hw0, hc0⟩ := ReadsInt.ofRowC w0
 obtain ⟨l1, rfl, hr1, hm1, hw1, hc1⟩ := ReadsInt.ofRowC w1
 obtain ⟨k, h⟩ := P l0 l1 hm0 y0 hw0 hm1 y1 hw1
 refine (laws_FnBits.calls k _ _ l0 _ _ l1 true w (Kd.C_of_reads (d := (0 : Int)) (h1 := fun _ => rfl) hr0) hc0 (Kd.C_of_reads (d := (0 : Int)) (h1 := fun _ => rfl) hr1) hc1 h).mono ?_
 rintro e w' ⟨rfl, hd⟩
 exact ⟨rfl, hd⟩

end Go.Proofs.YtobbhgghpjecjaaDoor.PFnBits
