-- written by a program of this session (wip/tool)
import Derived.Test.YtfopmaiednikhaaPFnExactPlaySegmentedx0
import Derived.Test.YtfopmaiednikhaaPFnExactPlaySegmentedx1
import Derived.Test.YtfopmaiednikhaaPFnExactPlaySegmentedx2
import Derived.Test.YtfopmaiednikhaaPFnExactPlaySegmentedx5
import Derived.Test.YtfopmaiednikhaaPFnExactPlaySegmentedx10
import Derived.Test.YtfopmaiednikhaaPFnExactPlaySegmentedx11
import Derived.Test.YtfopmaiednikhaaVOwn0
import Derived.Test.YtfopmaiednikhaaVOwnOpen
import Derived.WalkKit
import Derived.BigCall
import Derived.Lib.SliceRun
import Derived.Deep.RegionLaw
import Derived.Maps.OwnSet
import Derived.Maps.OwnOps
import Derived.Maps.Views
import Derived.Test.YtfopmaiednikhaaVWZeros
import Derived.Test.YtfopmaiednikhaaVWArr
import Derived.Test.YtfopmaiednikhaaVOwnShort
namespace Go.Proofs.Ytfopmaiednikhaa.PFnExactPlaySegmented
open Go.RowKit Go.Proofs.YtfopmaiednikhaaW.PrintWords Go.Proofs.YtfopmaiednikhaaW.PrintLast Go.Proofs.YtfopmaiednikhaaW.PrintMore Go.Shelf Go.Proofs.YtfopmaiednikhaaOwn
attribute [local go_sem] max2_int min2_int max_two min_two max_three min_three max_four min_four   -- for this text's walks alone
set_option linter.unusedVariables false
set_option linter.unusedSimpArgs false

/-! ### laws_FnExactPlaySegmented: function 7 -/
mutual
def laws_FnExactPlaySegmented.j0 : Nat → Int → Int → List (S49) → List ByteArray → Bool → List (S45) → List ByteArray → Bool → Bool → Int → Int → List (S45) → List (S45) → Int → Int → List (S45) → List (S45) → Option (Bool)
 | 0, _, _, _, _, _, _, _, _, _, _, _, _, _, _, _, _, _ => none
 | k + 1, x0, x1, x2, x9, x10, x11, x13, x14, x59, x476000, x476001, x476002, x476003, x492000, x492001, x492002, x492003 => if x59 = true then (none) else ((laws_toEntryS.f k x2).bind fun t494 => ((laws_eqEntryS.f k x11 t494).bind fun t497 => (if t497 = true then ((laws_markEntryS.f k x11 1).bind fun bt498 => (if bt498.1 < 0 then (laws_FnExactPlaySegmented.j1 k x0 x1 x2 x9 x10 x13 true x476000 x476001 x476002 x476003 x492000 x492001 x492002 x492003) else ((laws_eqSegmented.f k x492000 x492001 x492002 x492003 x476000 x476001 x476002 x476003).bind fun t500 => (if t500 = true then ((laws_eqStringS.f k x13 x9).bind fun t501 => (if t501 = true then (laws_FnExactPlaySegmented.j1 k x0 x1 x2 x9 x10 x13 (x14 != x10) x476000 x476001 x476002 x476003 x492000 x492001 x492002 x492003) else (laws_FnExactPlaySegmented.j1 k x0 x1 x2 x9 x10 x13 true x476000 x476001 x476002 x476003 x492000 x492001 x492002 x492003))) else (laws_FnExactPlaySegmented.j1 k x0 x1 x2 x9 x10 x13 true x476000 x476001 x476002 x476003 x492000 x492001 x492002 x492003))))) else (none))))
def laws_FnExactPlaySegmented.j1 : Nat → Int → Int → List (S49) → List ByteArray → Bool → List ByteArray → Bool → Int → Int → List (S45) → List (S45) → Int → Int → List (S45) → List (S45) → Option (Bool)
 | 0, _, _, _, _, _, _, _, _, _, _, _, _, _, _, _ => none
 | k + 1, x0, x1, x2, x9, x10, x13, x86, x476000, x476001, x476002, x476003, x492000, x492001, x492002, x492003 => if x86 = true then (none) else ((laws_markSegmented.f k x492000 x492001 x492002 x492003 1).bind fun bt502 => ((laws_markStringS.f k x13 bt502.1).bind fun bt505 => ((laws_heldSegmented.f k x492000 x492001 bt502.2.1 bt502.2.2 1).bind fun t507 => (if t507 < 0 then (none) else ((laws_heldStringS.f k bt505.2 t507).bind fun t508 => (if t508 < 0 then (none) else (if t508 = bt505.1 then ((laws_toEntryS.f k x2).bind fun t509 => ((impl_PlaySegmented.f k x0 x1 t509).bind fun bt512 => ((laws_eqSegmented.f k bt512.1 bt512.2.1 bt512.2.2.1 bt512.2.2.2.1 x476000 x476001 x476002 x476003).bind fun t525 => (if t525 = true then ((laws_eqStringS.f k bt512.2.2.2.2.1 x9).bind fun t526 => (if t526 = true then (laws_FnExactPlaySegmented.j2 k bt505.2 bt505.1 (bt512.2.2.2.2.2 != x10) x492000 x492001 bt502.2.1 bt502.2.2) else (laws_FnExactPlaySegmented.j2 k bt505.2 bt505.1 true x492000 x492001 bt502.2.1 bt502.2.2))) else (laws_FnExactPlaySegmented.j2 k bt505.2 bt505.1 true x492000 x492001 bt502.2.1 bt502.2.2))))) else (none))))))))
def laws_FnExactPlaySegmented.j2 : Nat → List ByteArray → Int → Bool → Int → Int → List (S45) → List (S45) → Option (Bool)
 | 0, _, _, _, _, _, _, _ => none
 | k + 1, x13, x16, x129, x492000, x492001, x492002, x492003 => if x129 = true then (none) else ((laws_heldSegmented.f k x492000 x492001 x492002 x492003 1).bind fun t527 => (if t527 < 0 then (none) else ((laws_heldStringS.f k x13 t527).bind fun t528 => (if t528 < 0 then (none) else (if t528 = x16 then (some true) else (none))))))
end
def laws_FnExactPlaySegmented.f (k : Nat) (a0 : Int) (a1 : Int) (l2 : List (S49)) : Option (Bool) := (laws_szEntryS.f k l2 1048576).bind fun t459 => (if t459 < 0 then (some true) else ((laws_toEntryS.f k l2).bind fun t460 => ((spec_PlaySegmented.f k a0 a1 t460).bind fun bt463 => ((laws_toEntryS.f k l2).bind fun t476 => ((impl_PlaySegmented.f k a0 a1 t476).bind fun bt479 => ((laws_eqSegmented.f k bt479.1 bt479.2.1 bt479.2.2.1 bt479.2.2.2.1 bt463.1 bt463.2.1 bt463.2.2.1 bt463.2.2.2.1).bind fun t492 => (if t492 = true then ((laws_eqStringS.f k bt479.2.2.2.2.1 bt463.2.2.2.2.1).bind fun t493 => (if t493 = true then (laws_FnExactPlaySegmented.j0 k a0 a1 l2 bt463.2.2.2.2.1 bt463.2.2.2.2.2 t476 bt479.2.2.2.2.1 bt479.2.2.2.2.2 (bt479.2.2.2.2.2 != bt463.2.2.2.2.2) bt463.1 bt463.2.1 bt463.2.2.1 bt463.2.2.2.1 bt479.1 bt479.2.1 bt479.2.2.1 bt479.2.2.2.1) else (laws_FnExactPlaySegmented.j0 k a0 a1 l2 bt463.2.2.2.2.1 bt463.2.2.2.2.2 t476 bt479.2.2.2.2.1 bt479.2.2.2.2.2 true bt463.1 bt463.2.1 bt463.2.2.1 bt463.2.2.2.1 bt479.1 bt479.2.1 bt479.2.2.1 bt479.2.2.2.1))) else (laws_FnExactPlaySegmented.j0 k a0 a1 l2 bt463.2.2.2.2.1 bt463.2.2.2.2.2 t476 bt479.2.2.2.2.1 bt479.2.2.2.2.2 true bt463.1 bt463.2.1 bt463.2.2.1 bt463.2.2.2.1 bt479.1 bt479.2.1 bt479.2.2.1 bt479.2.2.2.1))))))))
theorem laws_FnExactPlaySegmented.mono_l : ∀ k, (∀ y0 y1 y2 y3 y4 y5 y6 y7 y8 y9 y10 y11 y12 y13 y14 y15 y16, LeO (laws_FnExactPlaySegmented.j0 k y0 y1 y2 y3 y4 y5 y6 y7 y8 y9 y10 y11 y12 y13 y14 y15 y16) (laws_FnExactPlaySegmented.j0 (k + 1) y0 y1 y2 y3 y4 y5 y6 y7 y8 y9 y10 y11 y12 y13 y14 y15 y16)) ∧ (∀ y0 y1 y2 y3 y4 y5 y6 y7 y8 y9 y10 y11 y12 y13 y14, LeO (laws_FnExactPlaySegmented.j1 k y0 y1 y2 y3 y4 y5 y6 y7 y8 y9 y10 y11 y12 y13 y14) (laws_FnExactPlaySegmented.j1 (k + 1) y0 y1 y2 y3 y4 y5 y6 y7 y8 y9 y10 y11 y12 y13 y14)) ∧ (∀ y0 y1 y2 y3 y4 y5 y6, LeO (laws_FnExactPlaySegmented.j2 k y0 y1 y2 y3 y4 y5 y6) (laws_FnExactPlaySegmented.j2 (k + 1) y0 y1 y2 y3 y4 y5 y6))
 | 0 => ⟨fun _ _ _ _ _ _ _ _ _ _ _ _ _ _ _ _ _ r h => by simp [laws_FnExactPlaySegmented.j0] at h, fun _ _ _ _ _ _ _ _ _ _ _ _ _ _ _ r h => by simp [laws_FnExactPlaySegmented.j1] at h, fun _ _ _ _ _ _ _ r h => by simp [laws_FnExactPlaySegmented.j2] at h⟩
 | k + 1 => by
  obtain ⟨ih0, ih1, ih2⟩ := laws_FnExactPlaySegmented.mono_l k
  refine ⟨?_, ?_, ?_⟩
  ·intro y0 y1 y2 y3 y4 y5 y6 y7 y8 y9 y10 y11 y12 y13 y14 y15 y16
   unfold laws_FnExactPlaySegmented.j0
   repeat' first
   | (with_reducible exact ih0 _ _ _ _ _ _ _ _ _ _ _ _ _ _ _ _ _)
   | (with_reducible exact ih1 _ _ _ _ _ _ _ _ _ _ _ _ _ _ _)
   | (with_reducible exact ih2 _ _ _ _ _ _ _)
   | (with_reducible exact impl_PlaySegmented.mono _ _ _ _)
   | (with_reducible exact laws_eqEntryS.mono _ _ _)
   | (with_reducible exact laws_eqSegmented.mono _ _ _ _ _ _ _ _ _)
   | (with_reducible exact laws_eqStringS.mono _ _ _)
   | (with_reducible exact laws_heldSegmented.mono _ _ _ _ _ _)
   | (with_reducible exact laws_heldStringS.mono _ _ _)
   | (with_reducible exact laws_markEntryS.mono _ _ _)
   | (with_reducible exact laws_markSegmented.mono _ _ _ _ _ _)
   | (with_reducible exact laws_markStringS.mono _ _ _)
   | (with_reducible exact laws_szEntryS.mono _ _ _)
   | (with_reducible exact laws_toEntryS.mono _ _)
   | (with_reducible exact spec_PlaySegmented.mono _ _ _ _)
   | (with_reducible exact LeO.refl _)
   | (with_reducible exact LeO.none _)
   | (with_reducible refine LeO.ite ?_ ?_)
   | (with_reducible refine LeO.bind ?_ (fun _ => ?_))
   | exact ih0 _ _ _ _ _ _ _ _ _ _ _ _ _ _ _ _ _
   | exact ih1 _ _ _ _ _ _ _ _ _ _ _ _ _ _ _
   | exact ih2 _ _ _ _ _ _ _
   | exact impl_PlaySegmented.mono _ _ _ _
   | exact laws_eqEntryS.mono _ _ _
   | exact laws_eqSegmented.mono _ _ _ _ _ _ _ _ _
   | exact laws_eqStringS.mono _ _ _
   | exact laws_heldSegmented.mono _ _ _ _ _ _
   | exact laws_heldStringS.mono _ _ _
   | exact laws_markEntryS.mono _ _ _
   | exact laws_markSegmented.mono _ _ _ _ _ _
   | exact laws_markStringS.mono _ _ _
   | exact laws_szEntryS.mono _ _ _
   | exact laws_toEntryS.mono _ _
   | exact spec_PlaySegmented.mono _ _ _ _
   | exact LeO.none _
   | refine LeO.ite ?_ ?_
   | refine LeO.bind ?_ (fun _ => ?_)
  ·intro y0 y1 y2 y3 y4 y5 y6 y7 y8 y9 y10 y11 y12 y13 y14
   unfold laws_FnExactPlaySegmented.j1
   repeat' first
   | (with_reducible exact ih0 _ _ _ _ _ _ _ _ _ _ _ _ _ _ _ _ _)
   | (with_reducible exact ih1 _ _ _ _ _ _ _ _ _ _ _ _ _ _ _)
   | (with_reducible exact ih2 _ _ _ _ _ _ _)
   | (with_reducible exact impl_PlaySegmented.mono _ _ _ _)
   | (with_reducible exact laws_eqEntryS.mono _ _ _)
   | (with_reducible exact laws_eqSegmented.mono _ _ _ _ _ _ _ _ _)
   | (with_reducible exact laws_eqStringS.mono _ _ _)
   | (with_reducible exact laws_heldSegmented.mono _ _ _ _ _ _)
   | (with_reducible exact laws_heldStringS.mono _ _ _)
   | (with_reducible exact laws_markEntryS.mono _ _ _)
   | (with_reducible exact laws_markSegmented.mono _ _ _ _ _ _)
   | (with_reducible exact laws_markStringS.mono _ _ _)
   | (with_reducible exact laws_szEntryS.mono _ _ _)
   | (with_reducible exact laws_toEntryS.mono _ _)
   | (with_reducible exact spec_PlaySegmented.mono _ _ _ _)
   | (with_reducible exact LeO.refl _)
   | (with_reducible exact LeO.none _)
   | (with_reducible refine LeO.ite ?_ ?_)
   | (with_reducible refine LeO.bind ?_ (fun _ => ?_))
   | exact ih0 _ _ _ _ _ _ _ _ _ _ _ _ _ _ _ _ _
   | exact ih1 _ _ _ _ _ _ _ _ _ _ _ _ _ _ _
   | exact ih2 _ _ _ _ _ _ _
   | exact impl_PlaySegmented.mono _ _ _ _
   | exact laws_eqEntryS.mono _ _ _
   | exact laws_eqSegmented.mono _ _ _ _ _ _ _ _ _
   | exact laws_eqStringS.mono _ _ _
   | exact laws_heldSegmented.mono _ _ _ _ _ _
   | exact laws_heldStringS.mono _ _ _
   | exact laws_markEntryS.mono _ _ _
   | exact laws_markSegmented.mono _ _ _ _ _ _
   | exact laws_markStringS.mono _ _ _
   | exact laws_szEntryS.mono _ _ _
   | exact laws_toEntryS.mono _ _
   | exact spec_PlaySegmented.mono _ _ _ _
   | exact LeO.none _
   | refine LeO.ite ?_ ?_
   | refine LeO.bind ?_ (fun _ => ?_)
  ·intro y0 y1 y2 y3 y4 y5 y6
   unfold laws_FnExactPlaySegmented.j2
   repeat' first
   | (with_reducible exact ih0 _ _ _ _ _ _ _ _ _ _ _ _ _ _ _ _ _)
   | (with_reducible exact ih1 _ _ _ _ _ _ _ _ _ _ _ _ _ _ _)
   | (with_reducible exact ih2 _ _ _ _ _ _ _)
   | (with_reducible exact impl_PlaySegmented.mono _ _ _ _)
   | (with_reducible exact laws_eqEntryS.mono _ _ _)
   | (with_reducible exact laws_eqSegmented.mono _ _ _ _ _ _ _ _ _)
   | (with_reducible exact laws_eqStringS.mono _ _ _)
   | (with_reducible exact laws_heldSegmented.mono _ _ _ _ _ _)
   | (with_reducible exact laws_heldStringS.mono _ _ _)
   | (with_reducible exact laws_markEntryS.mono _ _ _)
   | (with_reducible exact laws_markSegmented.mono _ _ _ _ _ _)
   | (with_reducible exact laws_markStringS.mono _ _ _)
   | (with_reducible exact laws_szEntryS.mono _ _ _)
   | (with_reducible exact laws_toEntryS.mono _ _)
   | (with_reducible exact spec_PlaySegmented.mono _ _ _ _)
   | (with_reducible exact LeO.refl _)
   | (with_reducible exact LeO.none _)
   | (with_reducible refine LeO.ite ?_ ?_)
   | (with_reducible refine LeO.bind ?_ (fun _ => ?_))
   | exact ih0 _ _ _ _ _ _ _ _ _ _ _ _ _ _ _ _ _
   | exact ih1 _ _ _ _ _ _ _ _ _ _ _ _ _ _ _
   | exact ih2 _ _ _ _ _ _ _
   | exact impl_PlaySegmented.mono _ _ _ _
   | exact laws_eqEntryS.mono _ _ _
   | exact laws_eqSegmented.mono _ _ _ _ _ _ _ _ _
   | exact laws_eqStringS.mono _ _ _
   | exact laws_heldSegmented.mono _ _ _ _ _ _
   | exact laws_heldStringS.mono _ _ _
   | exact laws_markEntryS.mono _ _ _
   | exact laws_markSegmented.mono _ _ _ _ _ _
   | exact laws_markStringS.mono _ _ _
   | exact laws_szEntryS.mono _ _ _
   | exact laws_toEntryS.mono _ _
   | exact spec_PlaySegmented.mono _ _ _ _
   | exact LeO.none _
   | refine LeO.ite ?_ ?_
   | refine LeO.bind ?_ (fun _ => ?_)
theorem laws_FnExactPlaySegmented.mono : ∀ a0 a1 a2 k, LeO (laws_FnExactPlaySegmented.f k a0 a1 a2) (laws_FnExactPlaySegmented.f (k + 1) a0 a1 a2) := by
 intro a0 a1 a2 k
 obtain ⟨ih0, ih1, ih2⟩ := laws_FnExactPlaySegmented.mono_l k
 unfold laws_FnExactPlaySegmented.f
 repeat' first
   | (with_reducible exact ih0 _ _ _ _ _ _ _ _ _ _ _ _ _ _ _ _ _)
   | (with_reducible exact ih1 _ _ _ _ _ _ _ _ _ _ _ _ _ _ _)
   | (with_reducible exact ih2 _ _ _ _ _ _ _)
   | (with_reducible exact impl_PlaySegmented.mono _ _ _ _)
   | (with_reducible exact laws_eqEntryS.mono _ _ _)
   | (with_reducible exact laws_eqSegmented.mono _ _ _ _ _ _ _ _ _)
   | (with_reducible exact laws_eqStringS.mono _ _ _)
   | (with_reducible exact laws_heldSegmented.mono _ _ _ _ _ _)
   | (with_reducible exact laws_heldStringS.mono _ _ _)
   | (with_reducible exact laws_markEntryS.mono _ _ _)
   | (with_reducible exact laws_markSegmented.mono _ _ _ _ _ _)
   | (with_reducible exact laws_markStringS.mono _ _ _)
   | (with_reducible exact laws_szEntryS.mono _ _ _)
   | (with_reducible exact laws_toEntryS.mono _ _)
   | (with_reducible exact spec_PlaySegmented.mono _ _ _ _)
   | (with_reducible exact LeO.refl _)
   | (with_reducible exact LeO.none _)
   | (with_reducible refine LeO.ite ?_ ?_)
   | (with_reducible refine LeO.bind ?_ (fun _ => ?_))
   | exact ih0 _ _ _ _ _ _ _ _ _ _ _ _ _ _ _ _ _
   | exact ih1 _ _ _ _ _ _ _ _ _ _ _ _ _ _ _
   | exact ih2 _ _ _ _ _ _ _
   | exact impl_PlaySegmented.mono _ _ _ _
   | exact laws_eqEntryS.mono _ _ _
   | exact laws_eqSegmented.mono _ _ _ _ _ _ _ _ _
   | exact laws_eqStringS.mono _ _ _
   | exact laws_heldSegmented.mono _ _ _ _ _ _
   | exact laws_heldStringS.mono _ _ _
   | exact laws_markEntryS.mono _ _ _
   | exact laws_markSegmented.mono _ _ _ _ _ _
   | exact laws_markStringS.mono _ _ _
   | exact laws_szEntryS.mono _ _ _
   | exact laws_toEntryS.mono _ _
   | exact spec_PlaySegmented.mono _ _ _ _
   | exact LeO.none _
   | refine LeO.ite ?_ ?_
   | refine LeO.bind ?_ (fun _ => ?_)
set_option maxHeartbeats 8000000 in
set_option maxRecDepth 100000 in
theorem laws_FnExactPlaySegmented.calls (k : Nat) (a0 : Int) (a1 : Int) (A2 : Option Addr) (c2 : Nat) (l2 : List (S49)) (r : Bool) (w : World) (hr2 : Kd.C k49 w A2 l2.length l2) (hc2 : l2.length ≤ c2) (h : laws_FnExactPlaySegmented.f k a0 a1 l2 = some r) :
  Calls Try.prog 7 #[.int .i64 a0, .int .i64 a1, .slice A2 l2.length c2] w fun e w' => e = .returned (.bool r) ∧ Below w.heap.size w w' := by
 have hu28 := Try.underlying28
 have HR2 := Aside0.mk hr2
 have HC2 := Aside0.mk hc2
 clear hr2 hc2
 have HB := Aside0.mk (Below.refl w.heap.size w)
 have H : ((laws_szEntryS.f k l2 1048576).bind fun t459 => (if t459 < 0 then (some true) else ((laws_toEntryS.f k l2).bind fun t460 => ((spec_PlaySegmented.f k a0 a1 t460).bind fun bt463 => ((laws_toEntryS.f k l2).bind fun t476 => ((impl_PlaySegmented.f k a0 a1 t476).bind fun bt479 => ((laws_eqSegmented.f k bt479.1 bt479.2.1 bt479.2.2.1 bt479.2.2.2.1 bt463.1 bt463.2.1 bt463.2.2.1 bt463.2.2.2.1).bind fun t492 => (if t492 = true then ((laws_eqStringS.f k bt479.2.2.2.2.1 bt463.2.2.2.2.1).bind fun t493 => (if t493 = true then (laws_FnExactPlaySegmented.j0 k a0 a1 l2 bt463.2.2.2.2.1 bt463.2.2.2.2.2 t476 bt479.2.2.2.2.1 bt479.2.2.2.2.2 (bt479.2.2.2.2.2 != bt463.2.2.2.2.2) bt463.1 bt463.2.1 bt463.2.2.1 bt463.2.2.2.1 bt479.1 bt479.2.1 bt479.2.2.1 bt479.2.2.2.1) else (laws_FnExactPlaySegmented.j0 k a0 a1 l2 bt463.2.2.2.2.1 bt463.2.2.2.2.2 t476 bt479.2.2.2.2.1 bt479.2.2.2.2.2 true bt463.1 bt463.2.1 bt463.2.2.1 bt463.2.2.2.1 bt479.1 bt479.2.1 bt479.2.2.1 bt479.2.2.2.1))) else (laws_FnExactPlaySegmented.j0 k a0 a1 l2 bt463.2.2.2.2.1 bt463.2.2.2.2.2 t476 bt479.2.2.2.2.1 bt479.2.2.2.2.2 true bt463.1 bt463.2.1 bt463.2.2.1 bt463.2.2.2.1 bt479.1 bt479.2.1 bt479.2.2.1 bt479.2.2.2.1))))))))) = some r := h
 clear h
 replace H := Option.bind_eq_some_iff.mp H
 obtain ⟨t459, A40, H⟩ := H
 try dsimp only at H
 have A4 := Aside0.mk A40
 clear A40
 by_cases c5 : t459 < 0
 ·rw [if_pos c5] at H
  have c5b0 : decide (t459 < 0) = true := decide_eq_true c5
  clear c5
  obtain rfl := Option.some.inj H
  go_enter Try.func7, Try.ntmps7
  go_wp2_with (first | ((with_reducible refine gate_callee (f := 32) rfl ?_); refine goesL_ (some 23) rfl rfl Try.func32 (by kernel_rfl) rfl #[.slice A2 l2.length c2, .int .i64 1048576] rfl (by (try simp only [List.map_toArray, List.map_cons, List.map_nil]); first | done | rfl | (simp only [List.length_drop, List.length_take]; rfl)) ?_; (with_reducible refine (laws_szEntryS.calls k _ _ l2 1048576 t459 _ ?side1 ?side2 A4.out).mono ?_); (case side1 => exact kc HR2.out); (case side2 => exact HC2.out); rintro e w6 ⟨rfl, hb⟩; refine ⟨_, rfl, ?_⟩; have n0_ := Aside0.mk (below_step (bl HB.out) hb); clear HB; have HB := n0_; clear n0_; (try clear hb); (try clear hb2); (try clear hk); (try clear hi)))
  go_ret
  exact ⟨by first | rfl | (simp [errW_none, errW_some] <;> rfl) | (simp [*, errW_none, errW_some] <;> rfl), bl HB.out⟩
 ·rw [if_neg c5] at H
  have c5b0 : decide (t459 < 0) = false := decide_eq_false c5
  clear c5
  replace H := Option.bind_eq_some_iff.mp H
  obtain ⟨t460, A70, H⟩ := H
  try dsimp only at H
  have A7 := Aside0.mk A70
  clear A70
  replace H := Option.bind_eq_some_iff.mp H
  obtain ⟨⟨t463, t464, t465, t468, t471, t474⟩, A80, H⟩ := H
  try dsimp only at H
  have A8 := Aside0.mk A80
  clear A80
  replace H := Option.bind_eq_some_iff.mp H
  obtain ⟨t476, A90, H⟩ := H
  try dsimp only at H
  have A9 := Aside0.mk A90
  clear A90
  replace H := Option.bind_eq_some_iff.mp H
  obtain ⟨⟨t479, t480, t481, t484, t487, t490⟩, A100, H⟩ := H
  try dsimp only at H
  have A10 := Aside0.mk A100
  clear A100
  have HC11 := Aside0.mk H
  clear H
  go_enter Try.func7, Try.ntmps7
  go_upto_region 8 with (first | ((with_reducible refine gate_callee (f := 32) rfl ?_); refine goesL_ (some 23) rfl rfl Try.func32 (by kernel_rfl) rfl #[.slice A2 l2.length c2, .int .i64 1048576] rfl (by (try simp only [List.map_toArray, List.map_cons, List.map_nil]); first | done | rfl | (simp only [List.length_drop, List.length_take]; rfl)) ?_; (with_reducible refine (laws_szEntryS.calls k _ _ l2 1048576 t459 _ ?side1 ?side2 A4.out).mono ?_); (case side1 => exact kc HR2.out); (case side2 => exact HC2.out); rintro e w12 ⟨rfl, hb⟩; refine ⟨_, rfl, ?_⟩; have n0_ := Aside0.mk (below_step (bl HB.out) hb); clear HB; have HB := n0_; clear n0_; (try clear hb); (try clear hb2); (try clear hk); (try clear hi)) | ((with_reducible refine gate_callee (f := 33) rfl ?_); refine goesL_ (some 30) rfl rfl Try.func33 (by kernel_rfl) rfl #[.slice A2 l2.length c2] rfl (by (try simp only [List.map_toArray, List.map_cons, List.map_nil]); first | done | rfl | (simp only [List.length_drop, List.length_take]; rfl)) ?_; (with_reducible refine (laws_toEntryS.calls k _ _ l2 t460 _ ?side1 ?side2 A7.out).mono ?_); (case side1 => exact kc (Kd.C_below HR2.out HB.out)); (case side2 => exact HC2.out); rintro e w13 ⟨v461, rfl, ho0, hb⟩; refine ⟨_, rfl, ?_⟩; have n0_ := Aside0.mk (Kd.R_lower ho0 (below_size (bl HB.out))); have n1_ := Aside0.mk (below_step (bl HB.out) hb); clear HB; have HO462 := n0_; have HB := n1_; clear n0_ n1_; (try clear hb); (try clear hb2); (try clear hk); (try clear hi); (try clear ho0); obtain ⟨Ao14, co14, eo14⟩ := Kd.R_slice HO462.out; subst eo14) | ((with_reducible refine gate_callee (f := 18) rfl ?_); refine goesL_ (some 31) rfl rfl Try.func18 (by kernel_rfl) rfl #[.int .i64 a0, .int .i64 a1, .slice Ao14 t460.length co14] rfl (by (try simp only [List.map_toArray, List.map_cons, List.map_nil]); first | done | rfl | (simp only [List.length_drop, List.length_take]; rfl)) ?_; (with_reducible refine (spec_PlaySegmented.calls k a0 a1 _ _ t460 t463 t464 t465 t468 t471 t474 _ ?side1 ?side2 A8.out).mono ?_); (case side1 => exact kc (Kd.R_reads' HO462.out).2.2); (case side2 => exact (Kd.R_reads' HO462.out).2.1); rintro e w15 ⟨v466, v469, v472, rfl, ho0, ho1, ho2, hb⟩; refine ⟨_, rfl, ?_⟩; have n0_ := Aside0.mk (Kd.R_mono (Kd.R_told (Kd.R_told (Kd.R_old (kr HO462.out) hb) (Kd.R_base ho0)) (Kd.R_base ho1)) (fun _ h_ => h_.1)); have n1_ := Aside0.mk (Kd.R_lower (Kd.R_new' ho0 (Kd.R_lt (kr HO462.out))) (below_size (bl HB.out))); have n2_ := Aside0.mk (Kd.R_lower (Kd.R_new' ho1 (Kd.R_lt (kr HO462.out))) (below_size (bl HB.out))); have n3_ := Aside0.mk (Kd.R_lower ho2 (below_size (bl HB.out))); have n4_ := Aside0.mk (below_step (bl HB.out) hb); clear HO462; clear HB; have HO462 := n0_; have HO467 := n1_; have HO470 := n2_; have HO473 := n3_; have HB := n4_; clear n0_ n1_ n2_ n3_ n4_; (try clear hb); (try clear hb2); (try clear hk); (try clear hi); (try clear ho0); (try clear ho1); (try clear ho2)) | ((with_reducible refine gate_dst (N := 8) rfl ?_); refine box_event ?hg (N := 8) ?hd (cs := #[.int .i64 0, .int .i64 0, .slice none 0 0, .slice none 0 0]) (t := 28) ?hr ?_; (case hd => rfl); (case hg => rfl); (case hr => first | (go_simp; done) | (go_simp; rfl)); intro gb475 hg w16 hbox hb; have n0_ := Aside0.mk (Kd.R_below (kr HO462.out) hb); have n1_ := Aside0.mk (Kd.R_below (kr HO467.out) hb); have n2_ := Aside0.mk (Kd.R_below (kr HO470.out) hb); have n3_ := Aside0.mk (Kd.R_below (kr HO473.out) hb); have n4_ := Aside0.mk (below_step (bl HB.out) hb); have n5_ := Aside0.mk (hbox); have n6_ := Aside0.mk ((by rw [hg]; exact (below_size (bl HB.out)) : w.heap.size ≤ gb475)); have n7_ := Aside0.mk ((by rw [hg]; exact (below_size (bl HB.out)) : w.heap.size ≤ gb475)); clear HO462; clear HO467; clear HO470; clear HO473; clear HB; have HO462 := n0_; have HO467 := n1_; have HO470 := n2_; have HO473 := n3_; have HB := n4_; have BK475 := n5_; have GW475 := n6_; have GE475 := n7_; clear n0_ n1_ n2_ n3_ n4_ n5_ n6_ n7_; clear hb hbox hg; have hcz17_0 := bc0 BK475.out; have hcz17_1 := bc1 BK475.out; have hcz17_2 := bc2 BK475.out; have hcz17_3 := bc3 BK475.out; have hfz17_0 := blk_frozen BK475.out 0; have hfz17_1 := blk_frozen BK475.out 1; have hfz17_2 := blk_frozen BK475.out 2; have hfz17_3 := blk_frozen BK475.out 3; obtain ⟨Ao18, co18, eo18⟩ := Kd.R_slice HO467.out; subst eo18; obtain ⟨Ao19, co19, eo19⟩ := Kd.R_slice HO470.out; subst eo19) | ((with_reducible refine gate_callee (f := 33) rfl ?_); refine goesL_ (some 36) rfl rfl Try.func33 (by kernel_rfl) rfl #[.slice A2 l2.length c2] rfl (by (try simp only [List.map_toArray, List.map_cons, List.map_nil]); first | done | rfl | (simp only [List.length_drop, List.length_take]; rfl)) ?_; (with_reducible refine (laws_toEntryS.calls k _ _ l2 t476 _ ?side1 ?side2 A9.out).mono ?_); (case side1 => exact Kd.C_below HR2.out (bl1 HB.out GE475.out)); (case side2 => exact HC2.out); rintro e w20 ⟨v477, rfl, ho0, hb⟩; refine ⟨_, rfl, ?_⟩; have n0_ := Aside0.mk (Kd.R_elder' (by (with_reducible repeat (first | apply Kd.R_alloc | apply Kd.R_drewN | apply Kd.R_drew)); exact (Kd.R_mono (Kd.R_far (p := ⟨gb475, 3, none⟩) (Kd.R_far (p := ⟨gb475, 2, none⟩) (Kd.R_far (p := ⟨gb475, 1, none⟩) (Kd.R_far (p := ⟨gb475, 0, none⟩) (Kd.R_types HO462.out BK475.out (by decide)) (fun _ hk => hk.2) (.int .i64 t463)) (fun _ hk => hk.2) (.int .i64 t464)) (fun _ hk => hk.2) (.slice Ao18 t465.length co18)) (fun _ hk => hk.2) (.slice Ao19 t468.length co19)) (fun _ h_ => h_.1))) (Kd.R_base ho0) hb); have n1_ := Aside0.mk (Kd.R_elder' (by (with_reducible repeat (first | apply Kd.R_alloc | apply Kd.R_drewN | apply Kd.R_drew)); exact (Kd.R_mono (Kd.R_far (p := ⟨gb475, 3, none⟩) (Kd.R_far (p := ⟨gb475, 2, none⟩) (Kd.R_far (p := ⟨gb475, 1, none⟩) (Kd.R_far (p := ⟨gb475, 0, none⟩) (Kd.R_types HO467.out BK475.out (by decide)) (fun _ hk => hk.2) (.int .i64 t463)) (fun _ hk => hk.2) (.int .i64 t464)) (fun _ hk => hk.2) (.slice Ao18 t465.length co18)) (fun _ hk => hk.2) (.slice Ao19 t468.length co19)) (fun _ h_ => h_.1))) (Kd.R_base ho0) hb); have n2_ := Aside0.mk (Kd.R_elder' (by (with_reducible repeat (first | apply Kd.R_alloc | apply Kd.R_drewN | apply Kd.R_drew)); exact (Kd.R_mono (Kd.R_far (p := ⟨gb475, 3, none⟩) (Kd.R_far (p := ⟨gb475, 2, none⟩) (Kd.R_far (p := ⟨gb475, 1, none⟩) (Kd.R_far (p := ⟨gb475, 0, none⟩) (Kd.R_types HO470.out BK475.out (by decide)) (fun _ hk => hk.2) (.int .i64 t463)) (fun _ hk => hk.2) (.int .i64 t464)) (fun _ hk => hk.2) (.slice Ao18 t465.length co18)) (fun _ hk => hk.2) (.slice Ao19 t468.length co19)) (fun _ h_ => h_.1))) (Kd.R_base ho0) hb); have n3_ := Aside0.mk (Kd.R_below (by (with_reducible repeat (first | apply Kd.R_alloc | apply Kd.R_drewN | apply Kd.R_drew)); exact (Kd.R_mono (Kd.R_far (p := ⟨gb475, 3, none⟩) (Kd.R_far (p := ⟨gb475, 2, none⟩) (Kd.R_far (p := ⟨gb475, 1, none⟩) (Kd.R_far (p := ⟨gb475, 0, none⟩) (Kd.R_types HO473.out BK475.out (by decide)) (fun _ hk => hk.2) (.int .i64 t463)) (fun _ hk => hk.2) (.int .i64 t464)) (fun _ hk => hk.2) (.slice Ao18 t465.length co18)) (fun _ hk => hk.2) (.slice Ao19 t468.length co19)) (fun _ h_ => h_.1))) hb); have n4_ := Aside0.mk (Kd.R_lower (Kd.R_new' (Kd.R_new' (Kd.R_new' ho0 (Kd.R_lt (by (with_reducible repeat (first | apply Kd.R_alloc | apply Kd.R_drewN | apply Kd.R_drew)); exact (Kd.R_mono (Kd.R_far (p := ⟨gb475, 3, none⟩) (Kd.R_far (p := ⟨gb475, 2, none⟩) (Kd.R_far (p := ⟨gb475, 1, none⟩) (Kd.R_far (p := ⟨gb475, 0, none⟩) (Kd.R_types HO462.out BK475.out (by decide)) (fun _ hk => hk.2) (.int .i64 t463)) (fun _ hk => hk.2) (.int .i64 t464)) (fun _ hk => hk.2) (.slice Ao18 t465.length co18)) (fun _ hk => hk.2) (.slice Ao19 t468.length co19)) (fun _ h_ => h_.1))))) (Kd.R_lt (by (with_reducible repeat (first | apply Kd.R_alloc | apply Kd.R_drewN | apply Kd.R_drew)); exact (Kd.R_mono (Kd.R_far (p := ⟨gb475, 3, none⟩) (Kd.R_far (p := ⟨gb475, 2, none⟩) (Kd.R_far (p := ⟨gb475, 1, none⟩) (Kd.R_far (p := ⟨gb475, 0, none⟩) (Kd.R_types HO467.out BK475.out (by decide)) (fun _ hk => hk.2) (.int .i64 t463)) (fun _ hk => hk.2) (.int .i64 t464)) (fun _ hk => hk.2) (.slice Ao18 t465.length co18)) (fun _ hk => hk.2) (.slice Ao19 t468.length co19)) (fun _ h_ => h_.1))))) (Kd.R_lt (by (with_reducible repeat (first | apply Kd.R_alloc | apply Kd.R_drewN | apply Kd.R_drew)); exact (Kd.R_mono (Kd.R_far (p := ⟨gb475, 3, none⟩) (Kd.R_far (p := ⟨gb475, 2, none⟩) (Kd.R_far (p := ⟨gb475, 1, none⟩) (Kd.R_far (p := ⟨gb475, 0, none⟩) (Kd.R_types HO470.out BK475.out (by decide)) (fun _ hk => hk.2) (.int .i64 t463)) (fun _ hk => hk.2) (.int .i64 t464)) (fun _ hk => hk.2) (.slice Ao18 t465.length co18)) (fun _ hk => hk.2) (.slice Ao19 t468.length co19)) (fun _ h_ => h_.1))))) (below_size (bl1 HB.out GE475.out))); have n5_ := Aside0.mk (blk_below (g := gb475) (o := .cells #[.int .i64 t463, .int .i64 t464, .slice Ao18 t465.length co18, .slice Ao19 t468.length co19] 28 (0, 0)) (by (with_reducible repeat (first | refine blk_drewN ?_ _ | refine blk_drew ?_ | refine blk_alloc ?_ _)); refine blk_put (cs := #[.int .i64 t463, .int .i64 t464, .slice Ao18 t465.length co18, .slice none 0 0]) ?_ 3 _ rfl; (with_reducible repeat (first | refine blk_drewN ?_ _ | refine blk_drew ?_ | refine blk_alloc ?_ _)); refine blk_put (cs := #[.int .i64 t463, .int .i64 t464, .slice none 0 0, .slice none 0 0]) ?_ 2 _ rfl; (with_reducible repeat (first | refine blk_drewN ?_ _ | refine blk_drew ?_ | refine blk_alloc ?_ _)); refine blk_put (cs := #[.int .i64 t463, .int .i64 0, .slice none 0 0, .slice none 0 0]) ?_ 1 _ rfl; (with_reducible repeat (first | refine blk_drewN ?_ _ | refine blk_drew ?_ | refine blk_alloc ?_ _)); refine blk_put (cs := #[.int .i64 0, .int .i64 0, .slice none 0 0, .slice none 0 0]) ?_ 0 _ rfl; exact bk BK475.out) hb); have n6_ := Aside0.mk (below_step (bl1 HB.out GE475.out) hb); clear HO462; clear HO467; clear HO470; clear HO473; clear BK475; clear HB; have HO462 := n0_; have HO467 := n1_; have HO470 := n2_; have HO473 := n3_; have HO478 := n4_; have BK475 := n5_; have HB := n6_; clear n0_ n1_ n2_ n3_ n4_ n5_ n6_; (try clear hb); (try clear hb2); (try clear hk); (try clear hi); (try clear ho0); obtain ⟨Ao21, co21, eo21⟩ := Kd.R_slice HO478.out; subst eo21) | ((with_reducible refine gate_callee (f := 17) rfl ?_); refine goesL_ (some 41) rfl rfl Try.func17 (by kernel_rfl) rfl #[.int .i64 a0, .int .i64 a1, .slice Ao21 t476.length co21] rfl (by (try simp only [List.map_toArray, List.map_cons, List.map_nil]); first | done | rfl | (simp only [List.length_drop, List.length_take]; rfl)) ?_; (with_reducible refine (impl_PlaySegmented.calls k a0 a1 _ _ t476 t479 t480 t481 t484 t487 t490 _ ?side1 ?side2 A10.out).mono ?_); (case side1 => exact kc (Kd.R_reads' HO478.out).2.2); (case side2 => exact (Kd.R_reads' HO478.out).2.1); rintro e w22 ⟨v482, v485, v488, rfl, ho0, ho1, ho2, hb⟩; refine ⟨_, rfl, ?_⟩; have n0_ := Aside0.mk (Kd.R_mono (Kd.R_told (Kd.R_told (Kd.R_old (kr HO462.out) hb) (Kd.R_base ho0)) (Kd.R_base ho1)) (fun _ h_ => h_.1)); have n1_ := Aside0.mk (Kd.R_mono (Kd.R_told (Kd.R_told (Kd.R_old (kr HO467.out) hb) (Kd.R_base ho0)) (Kd.R_base ho1)) (fun _ h_ => h_.1)); have n2_ := Aside0.mk (Kd.R_mono (Kd.R_told (Kd.R_told (Kd.R_old (kr HO470.out) hb) (Kd.R_base ho0)) (Kd.R_base ho1)) (fun _ h_ => h_.1)); have n3_ := Aside0.mk (Kd.R_elder' (kr HO473.out) (Kd.R_base ho2) hb); have n4_ := Aside0.mk (Kd.R_mono (Kd.R_told (Kd.R_told (Kd.R_old (kr HO478.out) hb) (Kd.R_base ho0)) (Kd.R_base ho1)) (fun _ h_ => h_.1)); have n5_ := Aside0.mk (Kd.R_lower (Kd.R_new' (Kd.R_new' (Kd.R_new' (Kd.R_new' ho0 (Kd.R_lt (kr HO462.out))) (Kd.R_lt (kr HO467.out))) (Kd.R_lt (kr HO470.out))) (Kd.R_lt (kr HO478.out))) (below_size (bl1 HB.out GE475.out))); have n6_ := Aside0.mk (Kd.R_lower (Kd.R_new' (Kd.R_new' (Kd.R_new' (Kd.R_new' ho1 (Kd.R_lt (kr HO462.out))) (Kd.R_lt (kr HO467.out))) (Kd.R_lt (kr HO470.out))) (Kd.R_lt (kr HO478.out))) (below_size (bl1 HB.out GE475.out))); have n7_ := Aside0.mk (Kd.R_lower (Kd.R_new' ho2 (Kd.R_lt (kr HO473.out))) (below_size (bl1 HB.out GE475.out))); have n8_ := Aside0.mk (blk_below (bk BK475.out) hb); have n9_ := Aside0.mk (below_step (bl1 HB.out GE475.out) hb); clear HO462; clear HO467; clear HO470; clear HO473; clear HO478; clear BK475; clear HB; have HO462 := n0_; have HO467 := n1_; have HO470 := n2_; have HO473 := n3_; have HO478 := n4_; have HO483 := n5_; have HO486 := n6_; have HO489 := n7_; have BK475 := n8_; have HB := n9_; clear n0_ n1_ n2_ n3_ n4_ n5_ n6_ n7_ n8_ n9_; (try clear hb); (try clear hb2); (try clear hk); (try clear hi); (try clear ho0); (try clear ho1); (try clear ho2)) | ((with_reducible refine gate_dst (N := 12) rfl ?_); refine box_event ?hg (N := 12) ?hd (cs := #[.int .i64 0, .int .i64 0, .slice none 0 0, .slice none 0 0]) (t := 28) ?hr ?_; (case hd => rfl); (case hg => rfl); (case hr => first | (go_simp; done) | (go_simp; rfl)); intro gb491 hg w23 hbox hb; have n0_ := Aside0.mk (Kd.R_below (kr HO462.out) hb); have n1_ := Aside0.mk (Kd.R_below (kr HO467.out) hb); have n2_ := Aside0.mk (Kd.R_below (kr HO470.out) hb); have n3_ := Aside0.mk (Kd.R_below (kr HO473.out) hb); have n4_ := Aside0.mk (Kd.R_below (kr HO478.out) hb); have n5_ := Aside0.mk (Kd.R_below (kr HO483.out) hb); have n6_ := Aside0.mk (Kd.R_below (kr HO486.out) hb); have n7_ := Aside0.mk (Kd.R_below (kr HO489.out) hb); have n8_ := Aside0.mk (blk_below (bk BK475.out) hb); have n9_ := Aside0.mk (below_step (bl1 HB.out GE475.out) hb); have n10_ := Aside0.mk (hbox); have n11_ := Aside0.mk ((by rw [hg]; exact (below_size (bl1 HB.out GE475.out)) : w.heap.size ≤ gb491)); have n12_ := Aside0.mk ((by rw [hg]; exact (below_size (bl1 HB.out GE475.out)) : w.heap.size ≤ gb491)); have n13_ := Aside0.mk ((by rw [hg]; exact Nat.ne_of_lt (blk_lt (bk BK475.out)) : gb475 ≠ gb491)); have n14_ := Aside0.mk ((by rw [hg]; exact Nat.ne_of_gt (blk_lt (bk BK475.out)) : gb491 ≠ gb475)); clear HO462; clear HO467; clear HO470; clear HO473; clear HO478; clear HO483; clear HO486; clear HO489; clear BK475; clear HB; have HO462 := n0_; have HO467 := n1_; have HO470 := n2_; have HO473 := n3_; have HO478 := n4_; have HO483 := n5_; have HO486 := n6_; have HO489 := n7_; have BK475 := n8_; have HB := n9_; have BK491 := n10_; have GW491 := n11_; have GE491 := n12_; have NB475_491 := n13_; have NB491_475 := n14_; clear n0_ n1_ n2_ n3_ n4_ n5_ n6_ n7_ n8_ n9_ n10_ n11_ n12_ n13_ n14_; clear hb hbox hg; have hnb24 := NB491_475.out; have hnc24 := NB475_491.out; have hcz25_0 := bc0 BK491.out; have hcz25_1 := bc1 BK491.out; have hcz25_2 := bc2 BK491.out; have hcz25_3 := bc3 BK491.out; have hfz25_0 := blk_frozen BK491.out 0; have hfz25_1 := blk_frozen BK491.out 1; have hfz25_2 := blk_frozen BK491.out 2; have hfz25_3 := blk_frozen BK491.out 3; obtain ⟨Ao26, co26, eo26⟩ := Kd.R_slice HO483.out; subst eo26; obtain ⟨Ao27, co27, eo27⟩ := Kd.R_slice HO486.out; subst eo27))
  (try simp only [Act.put, List.setIfInBounds_toArray, List.set_cons_zero, List.set_cons_succ])
  go_cut [59] (fun v59 wc => ∃ (kq : Nat) (x59_10 : Bool), v59 = .bool x59_10 ∧ Aside0 (laws_FnExactPlaySegmented.j0 kq a0 a1 l2 t471 t474 t476 t487 t490 x59_10 t463 t464 t465 t468 t479 t480 t481 t484 = some r) ∧ Aside0 (kq ≤ k) ∧ Aside0 (Kd.R Kd.string 9 wc w.heap.size (fun k_ => some k_ ≠ (v488 : Value).ownBlock) v472 t471) ∧ Aside0 (Kd.R k45 45 wc w.heap.size (fun k_ => some k_ ≠ ((.slice Ao18 t465.length co18) : Value).ownBlock ∧ some k_ ≠ ((.slice Ao19 t468.length co19) : Value).ownBlock ∧ some k_ ≠ ((.slice Ao26 t481.length co26) : Value).ownBlock ∧ some k_ ≠ ((.slice Ao27 t484.length co27) : Value).ownBlock) (.slice Ao21 t476.length co21) t476) ∧ Aside0 (Kd.R Kd.string 9 wc w.heap.size (fun k_ => some k_ ≠ (v472 : Value).ownBlock) v488 t487) ∧ Aside0 (Kd.R k45 45 wc w.heap.size (fun k_ => some k_ ≠ ((.slice Ao21 t476.length co21) : Value).ownBlock ∧ some k_ ≠ ((.slice Ao19 t468.length co19) : Value).ownBlock ∧ some k_ ≠ ((.slice Ao26 t481.length co26) : Value).ownBlock ∧ some k_ ≠ ((.slice Ao27 t484.length co27) : Value).ownBlock) (.slice Ao18 t465.length co18) t465) ∧ Aside0 (Kd.R k45 45 wc w.heap.size (fun k_ => some k_ ≠ ((.slice Ao21 t476.length co21) : Value).ownBlock ∧ some k_ ≠ ((.slice Ao18 t465.length co18) : Value).ownBlock ∧ some k_ ≠ ((.slice Ao26 t481.length co26) : Value).ownBlock ∧ some k_ ≠ ((.slice Ao27 t484.length co27) : Value).ownBlock) (.slice Ao19 t468.length co19) t468) ∧ Aside0 (Kd.R k45 45 wc w.heap.size (fun k_ => some k_ ≠ ((.slice Ao21 t476.length co21) : Value).ownBlock ∧ some k_ ≠ ((.slice Ao18 t465.length co18) : Value).ownBlock ∧ some k_ ≠ ((.slice Ao19 t468.length co19) : Value).ownBlock ∧ some k_ ≠ ((.slice Ao27 t484.length co27) : Value).ownBlock) (.slice Ao26 t481.length co26) t481) ∧ Aside0 (Kd.R k45 45 wc w.heap.size (fun k_ => some k_ ≠ ((.slice Ao21 t476.length co21) : Value).ownBlock ∧ some k_ ≠ ((.slice Ao18 t465.length co18) : Value).ownBlock ∧ some k_ ≠ ((.slice Ao19 t468.length co19) : Value).ownBlock ∧ some k_ ≠ ((.slice Ao26 t481.length co26) : Value).ownBlock) (.slice Ao27 t484.length co27) t484) ∧ Aside0 (wc.heap[gb475]? = some (.cells #[.int .i64 t463, .int .i64 t464, (.slice Ao18 t465.length co18), (.slice Ao19 t468.length co19)] 28 (0, 0))) ∧ Aside0 (wc.heap[gb491]? = some (.cells #[.int .i64 t479, .int .i64 t480, (.slice Ao26 t481.length co26), (.slice Ao27 t484.length co27)] 28 (0, 0))) ∧ Aside0 (Below w.heap.size w wc))
  case first =>
   have H := HC11.out
   clear HC11
   replace H := Option.bind_eq_some_iff.mp H
   obtain ⟨t492, A280, H⟩ := H
   try dsimp only at H
   have A28 := Aside0.mk A280
   clear A280
   by_cases c29 : t492 = true
   ·subst c29
    have H1 : ((laws_eqStringS.f k t487 t471).bind fun t493 => (if t493 = true then (laws_FnExactPlaySegmented.j0 k a0 a1 l2 t471 t474 t476 t487 t490 (t490 != t474) t463 t464 t465 t468 t479 t480 t481 t484) else (laws_FnExactPlaySegmented.j0 k a0 a1 l2 t471 t474 t476 t487 t490 true t463 t464 t465 t468 t479 t480 t481 t484))) = some r := by rw [if_pos rfl] at H; exact H
    clear H
    have H := H1
    clear H1
    replace H := Option.bind_eq_some_iff.mp H
    obtain ⟨t493, A300, H⟩ := H
    try dsimp only at H
    have A30 := Aside0.mk A300
    clear A300
    by_cases c31 : t493 = true
    ·subst c31
     have H1 : (laws_FnExactPlaySegmented.j0 k a0 a1 l2 t471 t474 t476 t487 t490 (t490 != t474) t463 t464 t465 t468 t479 t480 t481 t484) = some r := by rw [if_pos rfl] at H; exact H
     clear H
     have H := H1
     clear H1
     have H' := Aside0.mk H
     clear H
     have hnb32 := NB491_475.out
     have hnc32 := NB475_491.out
     have hcz33_0 := bc0 BK491.out
     have hcz33_1 := bc1 BK491.out
     have hcz33_2 := bc2 BK491.out
     have hcz33_3 := bc3 BK491.out
     have hfz33_0 := blk_frozen BK491.out 0
     have hfz33_1 := blk_frozen BK491.out 1
     have hfz33_2 := blk_frozen BK491.out 2
     have hfz33_3 := blk_frozen BK491.out 3
     have hcz34_0 := bc0 BK475.out
     have hcz34_1 := bc1 BK475.out
     have hcz34_2 := bc2 BK475.out
     have hcz34_3 := bc3 BK475.out
     have hfz34_0 := blk_frozen BK475.out 0
     have hfz34_1 := blk_frozen BK475.out 1
     have hfz34_2 := blk_frozen BK475.out 2
     have hfz34_3 := blk_frozen BK475.out 3
     go_wp2_with (first | ((with_reducible refine gate_callee (f := 13) rfl ?_); refine goesL_ (some 47) rfl rfl Try.func13 (by kernel_rfl) rfl #[.agg #[.int .i64 t479, .int .i64 t480, .slice Ao26 t481.length co26, .slice Ao27 t484.length co27], .agg #[.int .i64 t463, .int .i64 t464, .slice Ao18 t465.length co18, .slice Ao19 t468.length co19]] rfl (by (try simp only [List.map_toArray, List.map_cons, List.map_nil]); first | done | rfl | (simp only [List.length_drop, List.length_take]; rfl)) ?_; (with_reducible refine (laws_eqSegmented.calls k t479 t480 _ _ t481 _ _ t484 t463 t464 _ _ t465 _ _ t468 true _ ?side1 ?side2 ?side3 ?side4 ?side5 ?side6 ?side7 ?side8 A28.out).mono ?_); (case side1 => refine (Kd.R_reads' (e := 45) (base := w.heap.size) (ok := fun k_ => ((((some k_ ≠ (.slice Ao27 t484.length co27 : Value).ownBlock ∧ some k_ ≠ (.slice Ao14 t460.length co14 : Value).ownBlock) ∧ some k_ ≠ (.slice Ao18 t465.length co18 : Value).ownBlock) ∧ some k_ ≠ (.slice Ao19 t468.length co19 : Value).ownBlock) ∧ some k_ ≠ (.slice Ao21 t476.length co21 : Value).ownBlock)) (n := t481.length) (c := co26) ?_).2.2; exact (by (with_reducible repeat (first | apply Kd.R_alloc | apply Kd.R_drewN | apply Kd.R_drew)); exact (Kd.R_mono (Kd.R_far (p := ⟨gb491, 3, none⟩) (Kd.R_far (p := ⟨gb491, 2, none⟩) (Kd.R_far (p := ⟨gb491, 1, none⟩) (Kd.R_far (p := ⟨gb491, 0, none⟩) (Kd.R_types HO483.out BK491.out (by decide)) (fun _ hk => hk.2) (.int .i64 t479)) (fun _ hk => hk.2) (.int .i64 t480)) (fun _ hk => hk.2) (.slice Ao26 t481.length co26)) (fun _ hk => hk.2) (.slice Ao27 t484.length co27)) (fun _ h_ => h_.1)))); (case side2 => exact (Kd.R_reads' HO483.out).2.1); (case side3 => refine (Kd.R_reads' (e := 45) (base := w.heap.size) (ok := fun k_ => ((((some k_ ≠ (.slice Ao26 t481.length co26 : Value).ownBlock ∧ some k_ ≠ (.slice Ao14 t460.length co14 : Value).ownBlock) ∧ some k_ ≠ (.slice Ao18 t465.length co18 : Value).ownBlock) ∧ some k_ ≠ (.slice Ao19 t468.length co19 : Value).ownBlock) ∧ some k_ ≠ (.slice Ao21 t476.length co21 : Value).ownBlock)) (n := t484.length) (c := co27) ?_).2.2; exact (by (with_reducible repeat (first | apply Kd.R_alloc | apply Kd.R_drewN | apply Kd.R_drew)); exact (Kd.R_mono (Kd.R_far (p := ⟨gb491, 3, none⟩) (Kd.R_far (p := ⟨gb491, 2, none⟩) (Kd.R_far (p := ⟨gb491, 1, none⟩) (Kd.R_far (p := ⟨gb491, 0, none⟩) (Kd.R_types HO486.out BK491.out (by decide)) (fun _ hk => hk.2) (.int .i64 t479)) (fun _ hk => hk.2) (.int .i64 t480)) (fun _ hk => hk.2) (.slice Ao26 t481.length co26)) (fun _ hk => hk.2) (.slice Ao27 t484.length co27)) (fun _ h_ => h_.1)))); (case side4 => exact (Kd.R_reads' HO486.out).2.1); (case side5 => refine (Kd.R_reads' (e := 45) (base := w.heap.size) (ok := fun k_ => ((((some k_ ≠ (.slice Ao19 t468.length co19 : Value).ownBlock ∧ some k_ ≠ (.slice Ao14 t460.length co14 : Value).ownBlock) ∧ some k_ ≠ (.slice Ao21 t476.length co21 : Value).ownBlock) ∧ some k_ ≠ (.slice Ao26 t481.length co26 : Value).ownBlock) ∧ some k_ ≠ (.slice Ao27 t484.length co27 : Value).ownBlock)) (n := t465.length) (c := co18) ?_).2.2; exact (by (with_reducible repeat (first | apply Kd.R_alloc | apply Kd.R_drewN | apply Kd.R_drew)); exact (Kd.R_mono (Kd.R_far (p := ⟨gb491, 3, none⟩) (Kd.R_far (p := ⟨gb491, 2, none⟩) (Kd.R_far (p := ⟨gb491, 1, none⟩) (Kd.R_far (p := ⟨gb491, 0, none⟩) (Kd.R_types HO467.out BK491.out (by decide)) (fun _ hk => hk.2) (.int .i64 t479)) (fun _ hk => hk.2) (.int .i64 t480)) (fun _ hk => hk.2) (.slice Ao26 t481.length co26)) (fun _ hk => hk.2) (.slice Ao27 t484.length co27)) (fun _ h_ => h_.1)))); (case side6 => exact (Kd.R_reads' HO467.out).2.1); (case side7 => refine (Kd.R_reads' (e := 45) (base := w.heap.size) (ok := fun k_ => ((((some k_ ≠ (.slice Ao18 t465.length co18 : Value).ownBlock ∧ some k_ ≠ (.slice Ao14 t460.length co14 : Value).ownBlock) ∧ some k_ ≠ (.slice Ao21 t476.length co21 : Value).ownBlock) ∧ some k_ ≠ (.slice Ao26 t481.length co26 : Value).ownBlock) ∧ some k_ ≠ (.slice Ao27 t484.length co27 : Value).ownBlock)) (n := t468.length) (c := co19) ?_).2.2; exact (by (with_reducible repeat (first | apply Kd.R_alloc | apply Kd.R_drewN | apply Kd.R_drew)); exact (Kd.R_mono (Kd.R_far (p := ⟨gb491, 3, none⟩) (Kd.R_far (p := ⟨gb491, 2, none⟩) (Kd.R_far (p := ⟨gb491, 1, none⟩) (Kd.R_far (p := ⟨gb491, 0, none⟩) (Kd.R_types HO470.out BK491.out (by decide)) (fun _ hk => hk.2) (.int .i64 t479)) (fun _ hk => hk.2) (.int .i64 t480)) (fun _ hk => hk.2) (.slice Ao26 t481.length co26)) (fun _ hk => hk.2) (.slice Ao27 t484.length co27)) (fun _ h_ => h_.1)))); (case side8 => exact (Kd.R_reads' HO470.out).2.1); rintro e w35 ⟨rfl, hb⟩; refine ⟨_, rfl, ?_⟩; have n0_ := Aside0.mk (Kd.R_below (by (with_reducible repeat (first | apply Kd.R_alloc | apply Kd.R_drewN | apply Kd.R_drew)); exact (Kd.R_mono (Kd.R_far (p := ⟨gb491, 3, none⟩) (Kd.R_far (p := ⟨gb491, 2, none⟩) (Kd.R_far (p := ⟨gb491, 1, none⟩) (Kd.R_far (p := ⟨gb491, 0, none⟩) (Kd.R_types HO462.out BK491.out (by decide)) (fun _ hk => hk.2) (.int .i64 t479)) (fun _ hk => hk.2) (.int .i64 t480)) (fun _ hk => hk.2) (.slice Ao26 t481.length co26)) (fun _ hk => hk.2) (.slice Ao27 t484.length co27)) (fun _ h_ => h_.1))) hb); have n1_ := Aside0.mk (Kd.R_below (by (with_reducible repeat (first | apply Kd.R_alloc | apply Kd.R_drewN | apply Kd.R_drew)); exact (Kd.R_mono (Kd.R_far (p := ⟨gb491, 3, none⟩) (Kd.R_far (p := ⟨gb491, 2, none⟩) (Kd.R_far (p := ⟨gb491, 1, none⟩) (Kd.R_far (p := ⟨gb491, 0, none⟩) (Kd.R_types HO467.out BK491.out (by decide)) (fun _ hk => hk.2) (.int .i64 t479)) (fun _ hk => hk.2) (.int .i64 t480)) (fun _ hk => hk.2) (.slice Ao26 t481.length co26)) (fun _ hk => hk.2) (.slice Ao27 t484.length co27)) (fun _ h_ => h_.1))) hb); have n2_ := Aside0.mk (Kd.R_below (by (with_reducible repeat (first | apply Kd.R_alloc | apply Kd.R_drewN | apply Kd.R_drew)); exact (Kd.R_mono (Kd.R_far (p := ⟨gb491, 3, none⟩) (Kd.R_far (p := ⟨gb491, 2, none⟩) (Kd.R_far (p := ⟨gb491, 1, none⟩) (Kd.R_far (p := ⟨gb491, 0, none⟩) (Kd.R_types HO470.out BK491.out (by decide)) (fun _ hk => hk.2) (.int .i64 t479)) (fun _ hk => hk.2) (.int .i64 t480)) (fun _ hk => hk.2) (.slice Ao26 t481.length co26)) (fun _ hk => hk.2) (.slice Ao27 t484.length co27)) (fun _ h_ => h_.1))) hb); have n3_ := Aside0.mk (Kd.R_below (by (with_reducible repeat (first | apply Kd.R_alloc | apply Kd.R_drewN | apply Kd.R_drew)); exact (Kd.R_mono (Kd.R_far (p := ⟨gb491, 3, none⟩) (Kd.R_far (p := ⟨gb491, 2, none⟩) (Kd.R_far (p := ⟨gb491, 1, none⟩) (Kd.R_far (p := ⟨gb491, 0, none⟩) (Kd.R_types HO473.out BK491.out (by decide)) (fun _ hk => hk.2) (.int .i64 t479)) (fun _ hk => hk.2) (.int .i64 t480)) (fun _ hk => hk.2) (.slice Ao26 t481.length co26)) (fun _ hk => hk.2) (.slice Ao27 t484.length co27)) (fun _ h_ => h_.1))) hb); have n4_ := Aside0.mk (Kd.R_below (by (with_reducible repeat (first | apply Kd.R_alloc | apply Kd.R_drewN | apply Kd.R_drew)); exact (Kd.R_mono (Kd.R_far (p := ⟨gb491, 3, none⟩) (Kd.R_far (p := ⟨gb491, 2, none⟩) (Kd.R_far (p := ⟨gb491, 1, none⟩) (Kd.R_far (p := ⟨gb491, 0, none⟩) (Kd.R_types HO478.out BK491.out (by decide)) (fun _ hk => hk.2) (.int .i64 t479)) (fun _ hk => hk.2) (.int .i64 t480)) (fun _ hk => hk.2) (.slice Ao26 t481.length co26)) (fun _ hk => hk.2) (.slice Ao27 t484.length co27)) (fun _ h_ => h_.1))) hb); have n5_ := Aside0.mk (Kd.R_below (by (with_reducible repeat (first | apply Kd.R_alloc | apply Kd.R_drewN | apply Kd.R_drew)); exact (Kd.R_mono (Kd.R_far (p := ⟨gb491, 3, none⟩) (Kd.R_far (p := ⟨gb491, 2, none⟩) (Kd.R_far (p := ⟨gb491, 1, none⟩) (Kd.R_far (p := ⟨gb491, 0, none⟩) (Kd.R_types HO483.out BK491.out (by decide)) (fun _ hk => hk.2) (.int .i64 t479)) (fun _ hk => hk.2) (.int .i64 t480)) (fun _ hk => hk.2) (.slice Ao26 t481.length co26)) (fun _ hk => hk.2) (.slice Ao27 t484.length co27)) (fun _ h_ => h_.1))) hb); have n6_ := Aside0.mk (Kd.R_below (by (with_reducible repeat (first | apply Kd.R_alloc | apply Kd.R_drewN | apply Kd.R_drew)); exact (Kd.R_mono (Kd.R_far (p := ⟨gb491, 3, none⟩) (Kd.R_far (p := ⟨gb491, 2, none⟩) (Kd.R_far (p := ⟨gb491, 1, none⟩) (Kd.R_far (p := ⟨gb491, 0, none⟩) (Kd.R_types HO486.out BK491.out (by decide)) (fun _ hk => hk.2) (.int .i64 t479)) (fun _ hk => hk.2) (.int .i64 t480)) (fun _ hk => hk.2) (.slice Ao26 t481.length co26)) (fun _ hk => hk.2) (.slice Ao27 t484.length co27)) (fun _ h_ => h_.1))) hb); have n7_ := Aside0.mk (Kd.R_below (by (with_reducible repeat (first | apply Kd.R_alloc | apply Kd.R_drewN | apply Kd.R_drew)); exact (Kd.R_mono (Kd.R_far (p := ⟨gb491, 3, none⟩) (Kd.R_far (p := ⟨gb491, 2, none⟩) (Kd.R_far (p := ⟨gb491, 1, none⟩) (Kd.R_far (p := ⟨gb491, 0, none⟩) (Kd.R_types HO489.out BK491.out (by decide)) (fun _ hk => hk.2) (.int .i64 t479)) (fun _ hk => hk.2) (.int .i64 t480)) (fun _ hk => hk.2) (.slice Ao26 t481.length co26)) (fun _ hk => hk.2) (.slice Ao27 t484.length co27)) (fun _ h_ => h_.1))) hb); have n8_ := Aside0.mk (blk_below (g := gb475) (o := .cells #[.int .i64 t463, .int .i64 t464, .slice Ao18 t465.length co18, .slice Ao19 t468.length co19] 28 (0, 0)) (by (with_reducible repeat (first | refine blk_drewN ?_ _ | refine blk_drew ?_ | refine blk_alloc ?_ _)); refine blk_far ?_ NB475_491.out _; (with_reducible repeat (first | refine blk_drewN ?_ _ | refine blk_drew ?_ | refine blk_alloc ?_ _)); refine blk_far ?_ NB475_491.out _; (with_reducible repeat (first | refine blk_drewN ?_ _ | refine blk_drew ?_ | refine blk_alloc ?_ _)); refine blk_far ?_ NB475_491.out _; (with_reducible repeat (first | refine blk_drewN ?_ _ | refine blk_drew ?_ | refine blk_alloc ?_ _)); refine blk_far ?_ NB475_491.out _; exact bk BK475.out) hb); have n9_ := Aside0.mk (blk_below (g := gb491) (o := .cells #[.int .i64 t479, .int .i64 t480, .slice Ao26 t481.length co26, .slice Ao27 t484.length co27] 28 (0, 0)) (by (with_reducible repeat (first | refine blk_drewN ?_ _ | refine blk_drew ?_ | refine blk_alloc ?_ _)); refine blk_put (cs := #[.int .i64 t479, .int .i64 t480, .slice Ao26 t481.length co26, .slice none 0 0]) ?_ 3 _ rfl; (with_reducible repeat (first | refine blk_drewN ?_ _ | refine blk_drew ?_ | refine blk_alloc ?_ _)); refine blk_put (cs := #[.int .i64 t479, .int .i64 t480, .slice none 0 0, .slice none 0 0]) ?_ 2 _ rfl; (with_reducible repeat (first | refine blk_drewN ?_ _ | refine blk_drew ?_ | refine blk_alloc ?_ _)); refine blk_put (cs := #[.int .i64 t479, .int .i64 0, .slice none 0 0, .slice none 0 0]) ?_ 1 _ rfl; (with_reducible repeat (first | refine blk_drewN ?_ _ | refine blk_drew ?_ | refine blk_alloc ?_ _)); refine blk_put (cs := #[.int .i64 0, .int .i64 0, .slice none 0 0, .slice none 0 0]) ?_ 0 _ rfl; exact bk BK491.out) hb); have n10_ := Aside0.mk (below_step (bl2 HB.out GE475.out GE491.out) hb); clear HO462; clear HO467; clear HO470; clear HO473; clear HO478; clear HO483; clear HO486; clear HO489; clear BK475; clear BK491; clear HB; have HO462 := n0_; have HO467 := n1_; have HO470 := n2_; have HO473 := n3_; have HO478 := n4_; have HO483 := n5_; have HO486 := n6_; have HO489 := n7_; have BK475 := n8_; have BK491 := n9_; have HB := n10_; clear n0_ n1_ n2_ n3_ n4_ n5_ n6_ n7_ n8_ n9_ n10_; (try clear hb); (try clear hb2); (try clear hk); (try clear hi); obtain ⟨Ao36, co36, eo36⟩ := Kd.R_slice HO489.out; subst eo36; obtain ⟨Ao37, co37, eo37⟩ := Kd.R_slice HO473.out; subst eo37) | (go_at_call 34; (with_reducible refine (laws_eqStringS.calls k _ _ t487 _ _ t471 true _ ?side1 ?side2 ?side3 ?side4 A30.out).mono ?_); (case side1 => exact kc (Kd.R_reads' HO489.out).2.2); (case side2 => exact (Kd.R_reads' HO489.out).2.1); (case side3 => exact kc (Kd.R_reads' HO473.out).2.2); (case side4 => exact (Kd.R_reads' HO473.out).2.1); rintro e w' ⟨rfl, ⟨nd, rfl⟩⟩))
     go_meet
     case rel => exact ⟨_, ((t490 != t474)), (by first | rfl | (simp; done) | (simp [*]; done)), H', ⟨by first | omega | exact Nat.le_refl _⟩, ⟨by (with_reducible repeat (first | apply Kd.R_alloc | apply Kd.R_drewN | apply Kd.R_drew)); exact Kd.R_mono HO473.out (fun _ hk => hk.2)⟩, ⟨by (with_reducible repeat (first | apply Kd.R_alloc | apply Kd.R_drewN | apply Kd.R_drew)); exact Kd.R_mono HO478.out (fun _ hk => ⟨hk.1.1.1.2, ⟨hk.1.1.2, ⟨hk.1.2, hk.2⟩⟩⟩)⟩, ⟨by (with_reducible repeat (first | apply Kd.R_alloc | apply Kd.R_drewN | apply Kd.R_drew)); exact Kd.R_mono HO489.out (fun _ hk => hk.2)⟩, ⟨by (with_reducible repeat (first | apply Kd.R_alloc | apply Kd.R_drewN | apply Kd.R_drew)); exact Kd.R_mono HO467.out (fun _ hk => ⟨hk.1.1.2, ⟨hk.1.1.1.1, ⟨hk.1.2, hk.2⟩⟩⟩)⟩, ⟨by (with_reducible repeat (first | apply Kd.R_alloc | apply Kd.R_drewN | apply Kd.R_drew)); exact Kd.R_mono HO470.out (fun _ hk => ⟨hk.1.1.2, ⟨hk.1.1.1.1, ⟨hk.1.2, hk.2⟩⟩⟩)⟩, ⟨by (with_reducible repeat (first | apply Kd.R_alloc | apply Kd.R_drewN | apply Kd.R_drew)); exact Kd.R_mono HO483.out (fun _ hk => ⟨hk.2, ⟨hk.1.1.2, ⟨hk.1.2, hk.1.1.1.1⟩⟩⟩)⟩, ⟨by (with_reducible repeat (first | apply Kd.R_alloc | apply Kd.R_drewN | apply Kd.R_drew)); exact Kd.R_mono HO486.out (fun _ hk => ⟨hk.2, ⟨hk.1.1.2, ⟨hk.1.2, hk.1.1.1.1⟩⟩⟩)⟩, ⟨bk BK475.out⟩, ⟨bk BK491.out⟩, ⟨bl2 HB.out GE475.out GE491.out⟩⟩
    ·replace c31 := Bool.eq_false_iff.mpr c31
     subst c31
     have H1 : (laws_FnExactPlaySegmented.j0 k a0 a1 l2 t471 t474 t476 t487 t490 true t463 t464 t465 t468 t479 t480 t481 t484) = some r := by rw [if_neg (show ¬ (false = true) by decide)] at H; exact H
     clear H
     have H := H1
     clear H1
     have H' := Aside0.mk H
     clear H
     have hnb38 := NB491_475.out
     have hnc38 := NB475_491.out
     have hcz39_0 := bc0 BK491.out
     have hcz39_1 := bc1 BK491.out
     have hcz39_2 := bc2 BK491.out
     have hcz39_3 := bc3 BK491.out
     have hfz39_0 := blk_frozen BK491.out 0
     have hfz39_1 := blk_frozen BK491.out 1
     have hfz39_2 := blk_frozen BK491.out 2
     have hfz39_3 := blk_frozen BK491.out 3
     have hcz40_0 := bc0 BK475.out
     have hcz40_1 := bc1 BK475.out
     have hcz40_2 := bc2 BK475.out
     have hcz40_3 := bc3 BK475.out
     have hfz40_0 := blk_frozen BK475.out 0
     have hfz40_1 := blk_frozen BK475.out 1
     have hfz40_2 := blk_frozen BK475.out 2
     have hfz40_3 := blk_frozen BK475.out 3
     go_wp2_with (first | ((with_reducible refine gate_callee (f := 13) rfl ?_); refine goesL_ (some 47) rfl rfl Try.func13 (by kernel_rfl) rfl #[.agg #[.int .i64 t479, .int .i64 t480, .slice Ao26 t481.length co26, .slice Ao27 t484.length co27], .agg #[.int .i64 t463, .int .i64 t464, .slice Ao18 t465.length co18, .slice Ao19 t468.length co19]] rfl (by (try simp only [List.map_toArray, List.map_cons, List.map_nil]); first | done | rfl | (simp only [List.length_drop, List.length_take]; rfl)) ?_; (with_reducible refine (laws_eqSegmented.calls k t479 t480 _ _ t481 _ _ t484 t463 t464 _ _ t465 _ _ t468 true _ ?side1 ?side2 ?side3 ?side4 ?side5 ?side6 ?side7 ?side8 A28.out).mono ?_); (case side1 => refine (Kd.R_reads' (e := 45) (base := w.heap.size) (ok := fun k_ => ((((some k_ ≠ (.slice Ao27 t484.length co27 : Value).ownBlock ∧ some k_ ≠ (.slice Ao14 t460.length co14 : Value).ownBlock) ∧ some k_ ≠ (.slice Ao18 t465.length co18 : Value).ownBlock) ∧ some k_ ≠ (.slice Ao19 t468.length co19 : Value).ownBlock) ∧ some k_ ≠ (.slice Ao21 t476.length co21 : Value).ownBlock)) (n := t481.length) (c := co26) ?_).2.2; exact (by (with_reducible repeat (first | apply Kd.R_alloc | apply Kd.R_drewN | apply Kd.R_drew)); exact (Kd.R_mono (Kd.R_far (p := ⟨gb491, 3, none⟩) (Kd.R_far (p := ⟨gb491, 2, none⟩) (Kd.R_far (p := ⟨gb491, 1, none⟩) (Kd.R_far (p := ⟨gb491, 0, none⟩) (Kd.R_types HO483.out BK491.out (by decide)) (fun _ hk => hk.2) (.int .i64 t479)) (fun _ hk => hk.2) (.int .i64 t480)) (fun _ hk => hk.2) (.slice Ao26 t481.length co26)) (fun _ hk => hk.2) (.slice Ao27 t484.length co27)) (fun _ h_ => h_.1)))); (case side2 => exact (Kd.R_reads' HO483.out).2.1); (case side3 => refine (Kd.R_reads' (e := 45) (base := w.heap.size) (ok := fun k_ => ((((some k_ ≠ (.slice Ao26 t481.length co26 : Value).ownBlock ∧ some k_ ≠ (.slice Ao14 t460.length co14 : Value).ownBlock) ∧ some k_ ≠ (.slice Ao18 t465.length co18 : Value).ownBlock) ∧ some k_ ≠ (.slice Ao19 t468.length co19 : Value).ownBlock) ∧ some k_ ≠ (.slice Ao21 t476.length co21 : Value).ownBlock)) (n := t484.length) (c := co27) ?_).2.2; exact (by (with_reducible repeat (first | apply Kd.R_alloc | apply Kd.R_drewN | apply Kd.R_drew)); exact (Kd.R_mono (Kd.R_far (p := ⟨gb491, 3, none⟩) (Kd.R_far (p := ⟨gb491, 2, none⟩) (Kd.R_far (p := ⟨gb491, 1, none⟩) (Kd.R_far (p := ⟨gb491, 0, none⟩) (Kd.R_types HO486.out BK491.out (by decide)) (fun _ hk => hk.2) (.int .i64 t479)) (fun _ hk => hk.2) (.int .i64 t480)) (fun _ hk => hk.2) (.slice Ao26 t481.length co26)) (fun _ hk => hk.2) (.slice Ao27 t484.length co27)) (fun _ h_ => h_.1)))); (case side4 => exact (Kd.R_reads' HO486.out).2.1); (case side5 => refine (Kd.R_reads' (e := 45) (base := w.heap.size) (ok := fun k_ => ((((some k_ ≠ (.slice Ao19 t468.length co19 : Value).ownBlock ∧ some k_ ≠ (.slice Ao14 t460.length co14 : Value).ownBlock) ∧ some k_ ≠ (.slice Ao21 t476.length co21 : Value).ownBlock) ∧ some k_ ≠ (.slice Ao26 t481.length co26 : Value).ownBlock) ∧ some k_ ≠ (.slice Ao27 t484.length co27 : Value).ownBlock)) (n := t465.length) (c := co18) ?_).2.2; exact (by (with_reducible repeat (first | apply Kd.R_alloc | apply Kd.R_drewN | apply Kd.R_drew)); exact (Kd.R_mono (Kd.R_far (p := ⟨gb491, 3, none⟩) (Kd.R_far (p := ⟨gb491, 2, none⟩) (Kd.R_far (p := ⟨gb491, 1, none⟩) (Kd.R_far (p := ⟨gb491, 0, none⟩) (Kd.R_types HO467.out BK491.out (by decide)) (fun _ hk => hk.2) (.int .i64 t479)) (fun _ hk => hk.2) (.int .i64 t480)) (fun _ hk => hk.2) (.slice Ao26 t481.length co26)) (fun _ hk => hk.2) (.slice Ao27 t484.length co27)) (fun _ h_ => h_.1)))); (case side6 => exact (Kd.R_reads' HO467.out).2.1); (case side7 => refine (Kd.R_reads' (e := 45) (base := w.heap.size) (ok := fun k_ => ((((some k_ ≠ (.slice Ao18 t465.length co18 : Value).ownBlock ∧ some k_ ≠ (.slice Ao14 t460.length co14 : Value).ownBlock) ∧ some k_ ≠ (.slice Ao21 t476.length co21 : Value).ownBlock) ∧ some k_ ≠ (.slice Ao26 t481.length co26 : Value).ownBlock) ∧ some k_ ≠ (.slice Ao27 t484.length co27 : Value).ownBlock)) (n := t468.length) (c := co19) ?_).2.2; exact (by (with_reducible repeat (first | apply Kd.R_alloc | apply Kd.R_drewN | apply Kd.R_drew)); exact (Kd.R_mono (Kd.R_far (p := ⟨gb491, 3, none⟩) (Kd.R_far (p := ⟨gb491, 2, none⟩) (Kd.R_far (p := ⟨gb491, 1, none⟩) (Kd.R_far (p := ⟨gb491, 0, none⟩) (Kd.R_types HO470.out BK491.out (by decide)) (fun _ hk => hk.2) (.int .i64 t479)) (fun _ hk => hk.2) (.int .i64 t480)) (fun _ hk => hk.2) (.slice Ao26 t481.length co26)) (fun _ hk => hk.2) (.slice Ao27 t484.length co27)) (fun _ h_ => h_.1)))); (case side8 => exact (Kd.R_reads' HO470.out).2.1); rintro e w41 ⟨rfl, hb⟩; refine ⟨_, rfl, ?_⟩; have n0_ := Aside0.mk (Kd.R_below (by (with_reducible repeat (first | apply Kd.R_alloc | apply Kd.R_drewN | apply Kd.R_drew)); exact (Kd.R_mono (Kd.R_far (p := ⟨gb491, 3, none⟩) (Kd.R_far (p := ⟨gb491, 2, none⟩) (Kd.R_far (p := ⟨gb491, 1, none⟩) (Kd.R_far (p := ⟨gb491, 0, none⟩) (Kd.R_types HO462.out BK491.out (by decide)) (fun _ hk => hk.2) (.int .i64 t479)) (fun _ hk => hk.2) (.int .i64 t480)) (fun _ hk => hk.2) (.slice Ao26 t481.length co26)) (fun _ hk => hk.2) (.slice Ao27 t484.length co27)) (fun _ h_ => h_.1))) hb); have n1_ := Aside0.mk (Kd.R_below (by (with_reducible repeat (first | apply Kd.R_alloc | apply Kd.R_drewN | apply Kd.R_drew)); exact (Kd.R_mono (Kd.R_far (p := ⟨gb491, 3, none⟩) (Kd.R_far (p := ⟨gb491, 2, none⟩) (Kd.R_far (p := ⟨gb491, 1, none⟩) (Kd.R_far (p := ⟨gb491, 0, none⟩) (Kd.R_types HO467.out BK491.out (by decide)) (fun _ hk => hk.2) (.int .i64 t479)) (fun _ hk => hk.2) (.int .i64 t480)) (fun _ hk => hk.2) (.slice Ao26 t481.length co26)) (fun _ hk => hk.2) (.slice Ao27 t484.length co27)) (fun _ h_ => h_.1))) hb); have n2_ := Aside0.mk (Kd.R_below (by (with_reducible repeat (first | apply Kd.R_alloc | apply Kd.R_drewN | apply Kd.R_drew)); exact (Kd.R_mono (Kd.R_far (p := ⟨gb491, 3, none⟩) (Kd.R_far (p := ⟨gb491, 2, none⟩) (Kd.R_far (p := ⟨gb491, 1, none⟩) (Kd.R_far (p := ⟨gb491, 0, none⟩) (Kd.R_types HO470.out BK491.out (by decide)) (fun _ hk => hk.2) (.int .i64 t479)) (fun _ hk => hk.2) (.int .i64 t480)) (fun _ hk => hk.2) (.slice Ao26 t481.length co26)) (fun _ hk => hk.2) (.slice Ao27 t484.length co27)) (fun _ h_ => h_.1))) hb); have n3_ := Aside0.mk (Kd.R_below (by (with_reducible repeat (first | apply Kd.R_alloc | apply Kd.R_drewN | apply Kd.R_drew)); exact (Kd.R_mono (Kd.R_far (p := ⟨gb491, 3, none⟩) (Kd.R_far (p := ⟨gb491, 2, none⟩) (Kd.R_far (p := ⟨gb491, 1, none⟩) (Kd.R_far (p := ⟨gb491, 0, none⟩) (Kd.R_types HO473.out BK491.out (by decide)) (fun _ hk => hk.2) (.int .i64 t479)) (fun _ hk => hk.2) (.int .i64 t480)) (fun _ hk => hk.2) (.slice Ao26 t481.length co26)) (fun _ hk => hk.2) (.slice Ao27 t484.length co27)) (fun _ h_ => h_.1))) hb); have n4_ := Aside0.mk (Kd.R_below (by (with_reducible repeat (first | apply Kd.R_alloc | apply Kd.R_drewN | apply Kd.R_drew)); exact (Kd.R_mono (Kd.R_far (p := ⟨gb491, 3, none⟩) (Kd.R_far (p := ⟨gb491, 2, none⟩) (Kd.R_far (p := ⟨gb491, 1, none⟩) (Kd.R_far (p := ⟨gb491, 0, none⟩) (Kd.R_types HO478.out BK491.out (by decide)) (fun _ hk => hk.2) (.int .i64 t479)) (fun _ hk => hk.2) (.int .i64 t480)) (fun _ hk => hk.2) (.slice Ao26 t481.length co26)) (fun _ hk => hk.2) (.slice Ao27 t484.length co27)) (fun _ h_ => h_.1))) hb); have n5_ := Aside0.mk (Kd.R_below (by (with_reducible repeat (first | apply Kd.R_alloc | apply Kd.R_drewN | apply Kd.R_drew)); exact (Kd.R_mono (Kd.R_far (p := ⟨gb491, 3, none⟩) (Kd.R_far (p := ⟨gb491, 2, none⟩) (Kd.R_far (p := ⟨gb491, 1, none⟩) (Kd.R_far (p := ⟨gb491, 0, none⟩) (Kd.R_types HO483.out BK491.out (by decide)) (fun _ hk => hk.2) (.int .i64 t479)) (fun _ hk => hk.2) (.int .i64 t480)) (fun _ hk => hk.2) (.slice Ao26 t481.length co26)) (fun _ hk => hk.2) (.slice Ao27 t484.length co27)) (fun _ h_ => h_.1))) hb); have n6_ := Aside0.mk (Kd.R_below (by (with_reducible repeat (first | apply Kd.R_alloc | apply Kd.R_drewN | apply Kd.R_drew)); exact (Kd.R_mono (Kd.R_far (p := ⟨gb491, 3, none⟩) (Kd.R_far (p := ⟨gb491, 2, none⟩) (Kd.R_far (p := ⟨gb491, 1, none⟩) (Kd.R_far (p := ⟨gb491, 0, none⟩) (Kd.R_types HO486.out BK491.out (by decide)) (fun _ hk => hk.2) (.int .i64 t479)) (fun _ hk => hk.2) (.int .i64 t480)) (fun _ hk => hk.2) (.slice Ao26 t481.length co26)) (fun _ hk => hk.2) (.slice Ao27 t484.length co27)) (fun _ h_ => h_.1))) hb); have n7_ := Aside0.mk (Kd.R_below (by (with_reducible repeat (first | apply Kd.R_alloc | apply Kd.R_drewN | apply Kd.R_drew)); exact (Kd.R_mono (Kd.R_far (p := ⟨gb491, 3, none⟩) (Kd.R_far (p := ⟨gb491, 2, none⟩) (Kd.R_far (p := ⟨gb491, 1, none⟩) (Kd.R_far (p := ⟨gb491, 0, none⟩) (Kd.R_types HO489.out BK491.out (by decide)) (fun _ hk => hk.2) (.int .i64 t479)) (fun _ hk => hk.2) (.int .i64 t480)) (fun _ hk => hk.2) (.slice Ao26 t481.length co26)) (fun _ hk => hk.2) (.slice Ao27 t484.length co27)) (fun _ h_ => h_.1))) hb); have n8_ := Aside0.mk (blk_below (g := gb475) (o := .cells #[.int .i64 t463, .int .i64 t464, .slice Ao18 t465.length co18, .slice Ao19 t468.length co19] 28 (0, 0)) (by (with_reducible repeat (first | refine blk_drewN ?_ _ | refine blk_drew ?_ | refine blk_alloc ?_ _)); refine blk_far ?_ NB475_491.out _; (with_reducible repeat (first | refine blk_drewN ?_ _ | refine blk_drew ?_ | refine blk_alloc ?_ _)); refine blk_far ?_ NB475_491.out _; (with_reducible repeat (first | refine blk_drewN ?_ _ | refine blk_drew ?_ | refine blk_alloc ?_ _)); refine blk_far ?_ NB475_491.out _; (with_reducible repeat (first | refine blk_drewN ?_ _ | refine blk_drew ?_ | refine blk_alloc ?_ _)); refine blk_far ?_ NB475_491.out _; exact bk BK475.out) hb); have n9_ := Aside0.mk (blk_below (g := gb491) (o := .cells #[.int .i64 t479, .int .i64 t480, .slice Ao26 t481.length co26, .slice Ao27 t484.length co27] 28 (0, 0)) (by (with_reducible repeat (first | refine blk_drewN ?_ _ | refine blk_drew ?_ | refine blk_alloc ?_ _)); refine blk_put (cs := #[.int .i64 t479, .int .i64 t480, .slice Ao26 t481.length co26, .slice none 0 0]) ?_ 3 _ rfl; (with_reducible repeat (first | refine blk_drewN ?_ _ | refine blk_drew ?_ | refine blk_alloc ?_ _)); refine blk_put (cs := #[.int .i64 t479, .int .i64 t480, .slice none 0 0, .slice none 0 0]) ?_ 2 _ rfl; (with_reducible repeat (first | refine blk_drewN ?_ _ | refine blk_drew ?_ | refine blk_alloc ?_ _)); refine blk_put (cs := #[.int .i64 t479, .int .i64 0, .slice none 0 0, .slice none 0 0]) ?_ 1 _ rfl; (with_reducible repeat (first | refine blk_drewN ?_ _ | refine blk_drew ?_ | refine blk_alloc ?_ _)); refine blk_put (cs := #[.int .i64 0, .int .i64 0, .slice none 0 0, .slice none 0 0]) ?_ 0 _ rfl; exact bk BK491.out) hb); have n10_ := Aside0.mk (below_step (bl2 HB.out GE475.out GE491.out) hb); clear HO462; clear HO467; clear HO470; clear HO473; clear HO478; clear HO483; clear HO486; clear HO489; clear BK475; clear BK491; clear HB; have HO462 := n0_; have HO467 := n1_; have HO470 := n2_; have HO473 := n3_; have HO478 := n4_; have HO483 := n5_; have HO486 := n6_; have HO489 := n7_; have BK475 := n8_; have BK491 := n9_; have HB := n10_; clear n0_ n1_ n2_ n3_ n4_ n5_ n6_ n7_ n8_ n9_ n10_; (try clear hb); (try clear hb2); (try clear hk); (try clear hi); obtain ⟨Ao42, co42, eo42⟩ := Kd.R_slice HO489.out; subst eo42; obtain ⟨Ao43, co43, eo43⟩ := Kd.R_slice HO473.out; subst eo43) | (go_at_call 34; (with_reducible refine (laws_eqStringS.calls k _ _ t487 _ _ t471 false _ ?side1 ?side2 ?side3 ?side4 A30.out).mono ?_); (case side1 => exact kc (Kd.R_reads' HO489.out).2.2); (case side2 => exact (Kd.R_reads' HO489.out).2.1); (case side3 => exact kc (Kd.R_reads' HO473.out).2.2); (case side4 => exact (Kd.R_reads' HO473.out).2.1); rintro e w' ⟨rfl, ⟨nd, rfl⟩⟩))
     go_meet
     case rel => exact ⟨_, (true), (by first | rfl | (simp; done) | (simp [*]; done)), H', ⟨by first | omega | exact Nat.le_refl _⟩, ⟨by (with_reducible repeat (first | apply Kd.R_alloc | apply Kd.R_drewN | apply Kd.R_drew)); exact Kd.R_mono HO473.out (fun _ hk => hk.2)⟩, ⟨by (with_reducible repeat (first | apply Kd.R_alloc | apply Kd.R_drewN | apply Kd.R_drew)); exact Kd.R_mono HO478.out (fun _ hk => ⟨hk.1.1.1.2, ⟨hk.1.1.2, ⟨hk.1.2, hk.2⟩⟩⟩)⟩, ⟨by (with_reducible repeat (first | apply Kd.R_alloc | apply Kd.R_drewN | apply Kd.R_drew)); exact Kd.R_mono HO489.out (fun _ hk => hk.2)⟩, ⟨by (with_reducible repeat (first | apply Kd.R_alloc | apply Kd.R_drewN | apply Kd.R_drew)); exact Kd.R_mono HO467.out (fun _ hk => ⟨hk.1.1.2, ⟨hk.1.1.1.1, ⟨hk.1.2, hk.2⟩⟩⟩)⟩, ⟨by (with_reducible repeat (first | apply Kd.R_alloc | apply Kd.R_drewN | apply Kd.R_drew)); exact Kd.R_mono HO470.out (fun _ hk => ⟨hk.1.1.2, ⟨hk.1.1.1.1, ⟨hk.1.2, hk.2⟩⟩⟩)⟩, ⟨by (with_reducible repeat (first | apply Kd.R_alloc | apply Kd.R_drewN | apply Kd.R_drew)); exact Kd.R_mono HO483.out (fun _ hk => ⟨hk.2, ⟨hk.1.1.2, ⟨hk.1.2, hk.1.1.1.1⟩⟩⟩)⟩, ⟨by (with_reducible repeat (first | apply Kd.R_alloc | apply Kd.R_drewN | apply Kd.R_drew)); exact Kd.R_mono HO486.out (fun _ hk => ⟨hk.2, ⟨hk.1.1.2, ⟨hk.1.2, hk.1.1.1.1⟩⟩⟩)⟩, ⟨bk BK475.out⟩, ⟨bk BK491.out⟩, ⟨bl2 HB.out GE475.out GE491.out⟩⟩
   ·replace c29 := Bool.eq_false_iff.mpr c29
    subst c29
    have H1 : (laws_FnExactPlaySegmented.j0 k a0 a1 l2 t471 t474 t476 t487 t490 true t463 t464 t465 t468 t479 t480 t481 t484) = some r := by rw [if_neg (show ¬ (false = true) by decide)] at H; exact H
    clear H
    have H := H1
    clear H1
    have H' := Aside0.mk H
    clear H
    have hnb44 := NB491_475.out
    have hnc44 := NB475_491.out
    have hcz45_0 := bc0 BK491.out
    have hcz45_1 := bc1 BK491.out
    have hcz45_2 := bc2 BK491.out
    have hcz45_3 := bc3 BK491.out
    have hfz45_0 := blk_frozen BK491.out 0
    have hfz45_1 := blk_frozen BK491.out 1
    have hfz45_2 := blk_frozen BK491.out 2
    have hfz45_3 := blk_frozen BK491.out 3
    have hcz46_0 := bc0 BK475.out
    have hcz46_1 := bc1 BK475.out
    have hcz46_2 := bc2 BK475.out
    have hcz46_3 := bc3 BK475.out
    have hfz46_0 := blk_frozen BK475.out 0
    have hfz46_1 := blk_frozen BK475.out 1
    have hfz46_2 := blk_frozen BK475.out 2
    have hfz46_3 := blk_frozen BK475.out 3
    go_wp2_with (first | ((with_reducible refine gate_callee (f := 13) rfl ?_); refine goesL_ (some 47) rfl rfl Try.func13 (by kernel_rfl) rfl #[.agg #[.int .i64 t479, .int .i64 t480, .slice Ao26 t481.length co26, .slice Ao27 t484.length co27], .agg #[.int .i64 t463, .int .i64 t464, .slice Ao18 t465.length co18, .slice Ao19 t468.length co19]] rfl (by (try simp only [List.map_toArray, List.map_cons, List.map_nil]); first | done | rfl | (simp only [List.length_drop, List.length_take]; rfl)) ?_; (with_reducible refine (laws_eqSegmented.calls k t479 t480 _ _ t481 _ _ t484 t463 t464 _ _ t465 _ _ t468 false _ ?side1 ?side2 ?side3 ?side4 ?side5 ?side6 ?side7 ?side8 A28.out).mono ?_); (case side1 => refine (Kd.R_reads' (e := 45) (base := w.heap.size) (ok := fun k_ => ((((some k_ ≠ (.slice Ao27 t484.length co27 : Value).ownBlock ∧ some k_ ≠ (.slice Ao14 t460.length co14 : Value).ownBlock) ∧ some k_ ≠ (.slice Ao18 t465.length co18 : Value).ownBlock) ∧ some k_ ≠ (.slice Ao19 t468.length co19 : Value).ownBlock) ∧ some k_ ≠ (.slice Ao21 t476.length co21 : Value).ownBlock)) (n := t481.length) (c := co26) ?_).2.2; exact (by (with_reducible repeat (first | apply Kd.R_alloc | apply Kd.R_drewN | apply Kd.R_drew)); exact (Kd.R_mono (Kd.R_far (p := ⟨gb491, 3, none⟩) (Kd.R_far (p := ⟨gb491, 2, none⟩) (Kd.R_far (p := ⟨gb491, 1, none⟩) (Kd.R_far (p := ⟨gb491, 0, none⟩) (Kd.R_types HO483.out BK491.out (by decide)) (fun _ hk => hk.2) (.int .i64 t479)) (fun _ hk => hk.2) (.int .i64 t480)) (fun _ hk => hk.2) (.slice Ao26 t481.length co26)) (fun _ hk => hk.2) (.slice Ao27 t484.length co27)) (fun _ h_ => h_.1)))); (case side2 => exact (Kd.R_reads' HO483.out).2.1); (case side3 => refine (Kd.R_reads' (e := 45) (base := w.heap.size) (ok := fun k_ => ((((some k_ ≠ (.slice Ao26 t481.length co26 : Value).ownBlock ∧ some k_ ≠ (.slice Ao14 t460.length co14 : Value).ownBlock) ∧ some k_ ≠ (.slice Ao18 t465.length co18 : Value).ownBlock) ∧ some k_ ≠ (.slice Ao19 t468.length co19 : Value).ownBlock) ∧ some k_ ≠ (.slice Ao21 t476.length co21 : Value).ownBlock)) (n := t484.length) (c := co27) ?_).2.2; exact (by (with_reducible repeat (first | apply Kd.R_alloc | apply Kd.R_drewN | apply Kd.R_drew)); exact (Kd.R_mono (Kd.R_far (p := ⟨gb491, 3, none⟩) (Kd.R_far (p := ⟨gb491, 2, none⟩) (Kd.R_far (p := ⟨gb491, 1, none⟩) (Kd.R_far (p := ⟨gb491, 0, none⟩) (Kd.R_types HO486.out BK491.out (by decide)) (fun _ hk => hk.2) (.int .i64 t479)) (fun _ hk => hk.2) (.int .i64 t480)) (fun _ hk => hk.2) (.slice Ao26 t481.length co26)) (fun _ hk => hk.2) (.slice Ao27 t484.length co27)) (fun _ h_ => h_.1)))); (case side4 => exact (Kd.R_reads' HO486.out).2.1); (case side5 => refine (Kd.R_reads' (e := 45) (base := w.heap.size) (ok := fun k_ => ((((some k_ ≠ (.slice Ao19 t468.length co19 : Value).ownBlock ∧ some k_ ≠ (.slice Ao14 t460.length co14 : Value).ownBlock) ∧ some k_ ≠ (.slice Ao21 t476.length co21 : Value).ownBlock) ∧ some k_ ≠ (.slice Ao26 t481.length co26 : Value).ownBlock) ∧ some k_ ≠ (.slice Ao27 t484.length co27 : Value).ownBlock)) (n := t465.length) (c := co18) ?_).2.2; exact (by (with_reducible repeat (first | apply Kd.R_alloc | apply Kd.R_drewN | apply Kd.R_drew)); exact (Kd.R_mono (Kd.R_far (p := ⟨gb491, 3, none⟩) (Kd.R_far (p := ⟨gb491, 2, none⟩) (Kd.R_far (p := ⟨gb491, 1, none⟩) (Kd.R_far (p := ⟨gb491, 0, none⟩) (Kd.R_types HO467.out BK491.out (by decide)) (fun _ hk => hk.2) (.int .i64 t479)) (fun _ hk => hk.2) (.int .i64 t480)) (fun _ hk => hk.2) (.slice Ao26 t481.length co26)) (fun _ hk => hk.2) (.slice Ao27 t484.length co27)) (fun _ h_ => h_.1)))); (case side6 => exact (Kd.R_reads' HO467.out).2.1); (case side7 => refine (Kd.R_reads' (e := 45) (base := w.heap.size) (ok := fun k_ => ((((some k_ ≠ (.slice Ao18 t465.length co18 : Value).ownBlock ∧ some k_ ≠ (.slice Ao14 t460.length co14 : Value).ownBlock) ∧ some k_ ≠ (.slice Ao21 t476.length co21 : Value).ownBlock) ∧ some k_ ≠ (.slice Ao26 t481.length co26 : Value).ownBlock) ∧ some k_ ≠ (.slice Ao27 t484.length co27 : Value).ownBlock)) (n := t468.length) (c := co19) ?_).2.2; exact (by (with_reducible repeat (first | apply Kd.R_alloc | apply Kd.R_drewN | apply Kd.R_drew)); exact (Kd.R_mono (Kd.R_far (p := ⟨gb491, 3, none⟩) (Kd.R_far (p := ⟨gb491, 2, none⟩) (Kd.R_far (p := ⟨gb491, 1, none⟩) (Kd.R_far (p := ⟨gb491, 0, none⟩) (Kd.R_types HO470.out BK491.out (by decide)) (fun _ hk => hk.2) (.int .i64 t479)) (fun _ hk => hk.2) (.int .i64 t480)) (fun _ hk => hk.2) (.slice Ao26 t481.length co26)) (fun _ hk => hk.2) (.slice Ao27 t484.length co27)) (fun _ h_ => h_.1)))); (case side8 => exact (Kd.R_reads' HO470.out).2.1); rintro e w47 ⟨rfl, hb⟩; refine ⟨_, rfl, ?_⟩; have n0_ := Aside0.mk (Kd.R_below (by (with_reducible repeat (first | apply Kd.R_alloc | apply Kd.R_drewN | apply Kd.R_drew)); exact (Kd.R_mono (Kd.R_far (p := ⟨gb491, 3, none⟩) (Kd.R_far (p := ⟨gb491, 2, none⟩) (Kd.R_far (p := ⟨gb491, 1, none⟩) (Kd.R_far (p := ⟨gb491, 0, none⟩) (Kd.R_types HO462.out BK491.out (by decide)) (fun _ hk => hk.2) (.int .i64 t479)) (fun _ hk => hk.2) (.int .i64 t480)) (fun _ hk => hk.2) (.slice Ao26 t481.length co26)) (fun _ hk => hk.2) (.slice Ao27 t484.length co27)) (fun _ h_ => h_.1))) hb); have n1_ := Aside0.mk (Kd.R_below (by (with_reducible repeat (first | apply Kd.R_alloc | apply Kd.R_drewN | apply Kd.R_drew)); exact (Kd.R_mono (Kd.R_far (p := ⟨gb491, 3, none⟩) (Kd.R_far (p := ⟨gb491, 2, none⟩) (Kd.R_far (p := ⟨gb491, 1, none⟩) (Kd.R_far (p := ⟨gb491, 0, none⟩) (Kd.R_types HO467.out BK491.out (by decide)) (fun _ hk => hk.2) (.int .i64 t479)) (fun _ hk => hk.2) (.int .i64 t480)) (fun _ hk => hk.2) (.slice Ao26 t481.length co26)) (fun _ hk => hk.2) (.slice Ao27 t484.length co27)) (fun _ h_ => h_.1))) hb); have n2_ := Aside0.mk (Kd.R_below (by (with_reducible repeat (first | apply Kd.R_alloc | apply Kd.R_drewN | apply Kd.R_drew)); exact (Kd.R_mono (Kd.R_far (p := ⟨gb491, 3, none⟩) (Kd.R_far (p := ⟨gb491, 2, none⟩) (Kd.R_far (p := ⟨gb491, 1, none⟩) (Kd.R_far (p := ⟨gb491, 0, none⟩) (Kd.R_types HO470.out BK491.out (by decide)) (fun _ hk => hk.2) (.int .i64 t479)) (fun _ hk => hk.2) (.int .i64 t480)) (fun _ hk => hk.2) (.slice Ao26 t481.length co26)) (fun _ hk => hk.2) (.slice Ao27 t484.length co27)) (fun _ h_ => h_.1))) hb); have n3_ := Aside0.mk (Kd.R_below (by (with_reducible repeat (first | apply Kd.R_alloc | apply Kd.R_drewN | apply Kd.R_drew)); exact (Kd.R_mono (Kd.R_far (p := ⟨gb491, 3, none⟩) (Kd.R_far (p := ⟨gb491, 2, none⟩) (Kd.R_far (p := ⟨gb491, 1, none⟩) (Kd.R_far (p := ⟨gb491, 0, none⟩) (Kd.R_types HO473.out BK491.out (by decide)) (fun _ hk => hk.2) (.int .i64 t479)) (fun _ hk => hk.2) (.int .i64 t480)) (fun _ hk => hk.2) (.slice Ao26 t481.length co26)) (fun _ hk => hk.2) (.slice Ao27 t484.length co27)) (fun _ h_ => h_.1))) hb); have n4_ := Aside0.mk (Kd.R_below (by (with_reducible repeat (first | apply Kd.R_alloc | apply Kd.R_drewN | apply Kd.R_drew)); exact (Kd.R_mono (Kd.R_far (p := ⟨gb491, 3, none⟩) (Kd.R_far (p := ⟨gb491, 2, none⟩) (Kd.R_far (p := ⟨gb491, 1, none⟩) (Kd.R_far (p := ⟨gb491, 0, none⟩) (Kd.R_types HO478.out BK491.out (by decide)) (fun _ hk => hk.2) (.int .i64 t479)) (fun _ hk => hk.2) (.int .i64 t480)) (fun _ hk => hk.2) (.slice Ao26 t481.length co26)) (fun _ hk => hk.2) (.slice Ao27 t484.length co27)) (fun _ h_ => h_.1))) hb); have n5_ := Aside0.mk (Kd.R_below (by (with_reducible repeat (first | apply Kd.R_alloc | apply Kd.R_drewN | apply Kd.R_drew)); exact (Kd.R_mono (Kd.R_far (p := ⟨gb491, 3, none⟩) (Kd.R_far (p := ⟨gb491, 2, none⟩) (Kd.R_far (p := ⟨gb491, 1, none⟩) (Kd.R_far (p := ⟨gb491, 0, none⟩) (Kd.R_types HO483.out BK491.out (by decide)) (fun _ hk => hk.2) (.int .i64 t479)) (fun _ hk => hk.2) (.int .i64 t480)) (fun _ hk => hk.2) (.slice Ao26 t481.length co26)) (fun _ hk => hk.2) (.slice Ao27 t484.length co27)) (fun _ h_ => h_.1))) hb); have n6_ := Aside0.mk (Kd.R_below (by (with_reducible repeat (first | apply Kd.R_alloc | apply Kd.R_drewN | apply Kd.R_drew)); exact (Kd.R_mono (Kd.R_far (p := ⟨gb491, 3, none⟩) (Kd.R_far (p := ⟨gb491, 2, none⟩) (Kd.R_far (p := ⟨gb491, 1, none⟩) (Kd.R_far (p := ⟨gb491, 0, none⟩) (Kd.R_types HO486.out BK491.out (by decide)) (fun _ hk => hk.2) (.int .i64 t479)) (fun _ hk => hk.2) (.int .i64 t480)) (fun _ hk => hk.2) (.slice Ao26 t481.length co26)) (fun _ hk => hk.2) (.slice Ao27 t484.length co27)) (fun _ h_ => h_.1))) hb); have n7_ := Aside0.mk (Kd.R_below (by (with_reducible repeat (first | apply Kd.R_alloc | apply Kd.R_drewN | apply Kd.R_drew)); exact (Kd.R_mono (Kd.R_far (p := ⟨gb491, 3, none⟩) (Kd.R_far (p := ⟨gb491, 2, none⟩) (Kd.R_far (p := ⟨gb491, 1, none⟩) (Kd.R_far (p := ⟨gb491, 0, none⟩) (Kd.R_types HO489.out BK491.out (by decide)) (fun _ hk => hk.2) (.int .i64 t479)) (fun _ hk => hk.2) (.int .i64 t480)) (fun _ hk => hk.2) (.slice Ao26 t481.length co26)) (fun _ hk => hk.2) (.slice Ao27 t484.length co27)) (fun _ h_ => h_.1))) hb); have n8_ := Aside0.mk (blk_below (g := gb475) (o := .cells #[.int .i64 t463, .int .i64 t464, .slice Ao18 t465.length co18, .slice Ao19 t468.length co19] 28 (0, 0)) (by (with_reducible repeat (first | refine blk_drewN ?_ _ | refine blk_drew ?_ | refine blk_alloc ?_ _)); refine blk_far ?_ NB475_491.out _; (with_reducible repeat (first | refine blk_drewN ?_ _ | refine blk_drew ?_ | refine blk_alloc ?_ _)); refine blk_far ?_ NB475_491.out _; (with_reducible repeat (first | refine blk_drewN ?_ _ | refine blk_drew ?_ | refine blk_alloc ?_ _)); refine blk_far ?_ NB475_491.out _; (with_reducible repeat (first | refine blk_drewN ?_ _ | refine blk_drew ?_ | refine blk_alloc ?_ _)); refine blk_far ?_ NB475_491.out _; exact bk BK475.out) hb); have n9_ := Aside0.mk (blk_below (g := gb491) (o := .cells #[.int .i64 t479, .int .i64 t480, .slice Ao26 t481.length co26, .slice Ao27 t484.length co27] 28 (0, 0)) (by (with_reducible repeat (first | refine blk_drewN ?_ _ | refine blk_drew ?_ | refine blk_alloc ?_ _)); refine blk_put (cs := #[.int .i64 t479, .int .i64 t480, .slice Ao26 t481.length co26, .slice none 0 0]) ?_ 3 _ rfl; (with_reducible repeat (first | refine blk_drewN ?_ _ | refine blk_drew ?_ | refine blk_alloc ?_ _)); refine blk_put (cs := #[.int .i64 t479, .int .i64 t480, .slice none 0 0, .slice none 0 0]) ?_ 2 _ rfl; (with_reducible repeat (first | refine blk_drewN ?_ _ | refine blk_drew ?_ | refine blk_alloc ?_ _)); refine blk_put (cs := #[.int .i64 t479, .int .i64 0, .slice none 0 0, .slice none 0 0]) ?_ 1 _ rfl; (with_reducible repeat (first | refine blk_drewN ?_ _ | refine blk_drew ?_ | refine blk_alloc ?_ _)); refine blk_put (cs := #[.int .i64 0, .int .i64 0, .slice none 0 0, .slice none 0 0]) ?_ 0 _ rfl; exact bk BK491.out) hb); have n10_ := Aside0.mk (below_step (bl2 HB.out GE475.out GE491.out) hb); clear HO462; clear HO467; clear HO470; clear HO473; clear HO478; clear HO483; clear HO486; clear HO489; clear BK475; clear BK491; clear HB; have HO462 := n0_; have HO467 := n1_; have HO470 := n2_; have HO473 := n3_; have HO478 := n4_; have HO483 := n5_; have HO486 := n6_; have HO489 := n7_; have BK475 := n8_; have BK491 := n9_; have HB := n10_; clear n0_ n1_ n2_ n3_ n4_ n5_ n6_ n7_ n8_ n9_ n10_; (try clear hb); (try clear hb2); (try clear hk); (try clear hi)))
    go_meet
    case rel => exact ⟨_, (true), (by first | rfl | (simp; done) | (simp [*]; done)), H', ⟨by first | omega | exact Nat.le_refl _⟩, ⟨by (with_reducible repeat (first | apply Kd.R_alloc | apply Kd.R_drewN | apply Kd.R_drew)); exact Kd.R_mono HO473.out (fun _ hk => hk.2)⟩, ⟨by (with_reducible repeat (first | apply Kd.R_alloc | apply Kd.R_drewN | apply Kd.R_drew)); exact Kd.R_mono HO478.out (fun _ hk => ⟨hk.1.1.1.2, ⟨hk.1.1.2, ⟨hk.1.2, hk.2⟩⟩⟩)⟩, ⟨by (with_reducible repeat (first | apply Kd.R_alloc | apply Kd.R_drewN | apply Kd.R_drew)); exact Kd.R_mono HO489.out (fun _ hk => hk.2)⟩, ⟨by (with_reducible repeat (first | apply Kd.R_alloc | apply Kd.R_drewN | apply Kd.R_drew)); exact Kd.R_mono HO467.out (fun _ hk => ⟨hk.1.1.2, ⟨hk.1.1.1.1, ⟨hk.1.2, hk.2⟩⟩⟩)⟩, ⟨by (with_reducible repeat (first | apply Kd.R_alloc | apply Kd.R_drewN | apply Kd.R_drew)); exact Kd.R_mono HO470.out (fun _ hk => ⟨hk.1.1.2, ⟨hk.1.1.1.1, ⟨hk.1.2, hk.2⟩⟩⟩)⟩, ⟨by (with_reducible repeat (first | apply Kd.R_alloc | apply Kd.R_drewN | apply Kd.R_drew)); exact Kd.R_mono HO483.out (fun _ hk => ⟨hk.2, ⟨hk.1.1.2, ⟨hk.1.2, hk.1.1.1.1⟩⟩⟩)⟩, ⟨by (with_reducible repeat (first | apply Kd.R_alloc | apply Kd.R_drewN | apply Kd.R_drew)); exact Kd.R_mono HO486.out (fun _ hk => ⟨hk.2, ⟨hk.1.1.2, ⟨hk.1.2, hk.1.1.1.1⟩⟩⟩)⟩, ⟨bk BK475.out⟩, ⟨bk BK491.out⟩, ⟨bl2 HB.out GE475.out GE491.out⟩⟩
  case rest =>
   clear HC11
   try clear c1
   try clear c2
   try clear p2
   try clear c3
   try clear c4
   try clear c5
   try clear c5b0
   try clear c7
   try clear c13
   try clear c17
   try clear c18
   try clear c24
   try clear c29
   try clear c31
   try clear c32
   try clear c33
   try clear c38
   try clear c44
   try clear hcz17_0
   try clear hcz17_1
   try clear hcz17_2
   try clear hcz17_3
   try clear hcz25_0
   try clear hcz25_1
   try clear hcz25_2
   try clear hcz25_3
   try clear hcz33_0
   try clear hcz33_1
   try clear hcz33_2
   try clear hcz33_3
   try clear hcz34_0
   try clear hcz34_1
   try clear hcz34_2
   try clear hcz34_3
   try clear hcz39_0
   try clear hcz39_1
   try clear hcz39_2
   try clear hcz39_3
   try clear hcz40_0
   try clear hcz40_1
   try clear hcz40_2
   try clear hcz40_3
   try clear hcz45_0
   try clear hcz45_1
   try clear hcz45_2
   try clear hcz45_3
   try clear hcz46_0
   try clear hcz46_1
   try clear hcz46_2
   try clear hcz46_3
   try clear hfz17_0
   try clear hfz17_1
   try clear hfz17_2
   try clear hfz17_3
   try clear hfz25_0
   try clear hfz25_1
   try clear hfz25_2
   try clear hfz25_3
   try clear hfz33_0
   try clear hfz33_1
   try clear hfz33_2
   try clear hfz33_3
   try clear hfz34_0
   try clear hfz34_1
   try clear hfz34_2
   try clear hfz34_3
   try clear hfz39_0
   try clear hfz39_1
   try clear hfz39_2
   try clear hfz39_3
   try clear hfz40_0
   try clear hfz40_1
   try clear hfz40_2
   try clear hfz40_3
   try clear hfz45_0
   try clear hfz45_1
   try clear hfz45_2
   try clear hfz45_3
   try clear hfz46_0
   try clear hfz46_1
   try clear hfz46_2
   try clear hfz46_3
   obtain ⟨kq, x59_10, rfl, HA, HJ10, HO_9, HO_11, HO_13, HO_476002, HO_476003, HO_492002, HO_492003, BK475, BK491, HB⟩ := hcut
   cases kq with
   | zero => exact absurd HA.out (by simp [laws_FnExactPlaySegmented.j0])
   | succ kj10 =>
    have H := HA.out
    clear HA
    simp only [laws_FnExactPlaySegmented.j0] at H
    by_cases c48 : x59_10 = true
    ·subst c48
     have H1 : (none) = some r := by rw [if_pos rfl] at H; exact H
     clear H
     have H := H1
     clear H1
     exact absurd H (by simp)
    ·replace c48 := Bool.eq_false_iff.mpr c48
     subst c48
     have H1 : ((laws_toEntryS.f kj10 l2).bind fun t494 => ((laws_eqEntryS.f kj10 t476 t494).bind fun t497 => (if t497 = true then ((laws_markEntryS.f kj10 t476 1).bind fun bt498 => (if bt498.1 < 0 then (laws_FnExactPlaySegmented.j1 kj10 a0 a1 l2 t471 t474 t487 true t463 t464 t465 t468 t479 t480 t481 t484) else ((laws_eqSegmented.f kj10 t479 t480 t481 t484 t463 t464 t465 t468).bind fun t500 => (if t500 = true then ((laws_eqStringS.f kj10 t487 t471).bind fun t501 => (if t501 = true then (laws_FnExactPlaySegmented.j1 kj10 a0 a1 l2 t471 t474 t487 (t490 != t474) t463 t464 t465 t468 t479 t480 t481 t484) else (laws_FnExactPlaySegmented.j1 kj10 a0 a1 l2 t471 t474 t487 true t463 t464 t465 t468 t479 t480 t481 t484))) else (laws_FnExactPlaySegmented.j1 kj10 a0 a1 l2 t471 t474 t487 true t463 t464 t465 t468 t479 t480 t481 t484))))) else (none)))) = some r := by rw [if_neg (show ¬ (false = true) by decide)] at H; exact H
     clear H
     have H := H1
     clear H1
     replace H := Option.bind_eq_some_iff.mp H
     obtain ⟨t494, A490, H⟩ := H
     try dsimp only at H
     have A49 := Aside0.mk A490
     clear A490
     replace H := Option.bind_eq_some_iff.mp H
     obtain ⟨t497, A500, H⟩ := H
     try dsimp only at H
     have A50 := Aside0.mk A500
     clear A500
     by_cases c51 : t497 = true
     ·subst c51
      have H1 : ((laws_markEntryS.f kj10 t476 1).bind fun bt498 => (if bt498.1 < 0 then (laws_FnExactPlaySegmented.j1 kj10 a0 a1 l2 t471 t474 t487 true t463 t464 t465 t468 t479 t480 t481 t484) else ((laws_eqSegmented.f kj10 t479 t480 t481 t484 t463 t464 t465 t468).bind fun t500 => (if t500 = true then ((laws_eqStringS.f kj10 t487 t471).bind fun t501 => (if t501 = true then (laws_FnExactPlaySegmented.j1 kj10 a0 a1 l2 t471 t474 t487 (t490 != t474) t463 t464 t465 t468 t479 t480 t481 t484) else (laws_FnExactPlaySegmented.j1 kj10 a0 a1 l2 t471 t474 t487 true t463 t464 t465 t468 t479 t480 t481 t484))) else (laws_FnExactPlaySegmented.j1 kj10 a0 a1 l2 t471 t474 t487 true t463 t464 t465 t468 t479 t480 t481 t484))))) = some r := by rw [if_pos rfl] at H; exact H
      clear H
      have H := H1
      clear H1
      replace H := Option.bind_eq_some_iff.mp H
      obtain ⟨⟨t498, t499⟩, A520, H⟩ := H
      try dsimp only at H
      have A52 := Aside0.mk A520
      clear A520
      have HC53 := Aside0.mk H
      clear H
      go_upto_region 14 with (first | ((with_reducible refine gate_callee (f := 33) rfl ?_); refine goesL_ (some 62) rfl rfl Try.func33 (by kernel_rfl) rfl #[.slice A2 l2.length c2] rfl (by (try simp only [List.map_toArray, List.map_cons, List.map_nil]); first | done | rfl | (simp only [List.length_drop, List.length_take]; rfl)) ?_; (with_reducible refine (laws_toEntryS.calls kj10 _ _ l2 t494 _ ?side1 ?side2 A49.out).mono ?_); (case side1 => exact kc (Kd.C_below HR2.out HB.out)); (case side2 => exact HC2.out); rintro e w54 ⟨v495, rfl, ho0, hb⟩; refine ⟨_, rfl, ?_⟩; have n0_ := Aside0.mk (Kd.R_below (kr HO_9.out) hb); have n1_ := Aside0.mk (Kd.R_elder' (kr HO_11.out) (Kd.R_base ho0) hb); have n2_ := Aside0.mk (Kd.R_below (kr HO_13.out) hb); have n3_ := Aside0.mk (Kd.R_elder' (kr HO_476002.out) (Kd.R_base ho0) hb); have n4_ := Aside0.mk (Kd.R_elder' (kr HO_476003.out) (Kd.R_base ho0) hb); have n5_ := Aside0.mk (Kd.R_elder' (kr HO_492002.out) (Kd.R_base ho0) hb); have n6_ := Aside0.mk (Kd.R_elder' (kr HO_492003.out) (Kd.R_base ho0) hb); have n7_ := Aside0.mk (Kd.R_lower (Kd.R_new' (Kd.R_new' (Kd.R_new' (Kd.R_new' (Kd.R_new' ho0 (Kd.R_lt (kr HO_11.out))) (Kd.R_lt (kr HO_476002.out))) (Kd.R_lt (kr HO_476003.out))) (Kd.R_lt (kr HO_492002.out))) (Kd.R_lt (kr HO_492003.out))) (below_size (bl2 HB.out GE475.out GE491.out))); have n8_ := Aside0.mk (blk_below (bk BK475.out) hb); have n9_ := Aside0.mk (blk_below (bk BK491.out) hb); have n10_ := Aside0.mk (below_step (bl2 HB.out GE475.out GE491.out) hb); clear HO_9; clear HO_11; clear HO_13; clear HO_476002; clear HO_476003; clear HO_492002; clear HO_492003; clear BK475; clear BK491; clear HB; have HO_9 := n0_; have HO_11 := n1_; have HO_13 := n2_; have HO_476002 := n3_; have HO_476003 := n4_; have HO_492002 := n5_; have HO_492003 := n6_; have HO496 := n7_; have BK475 := n8_; have BK491 := n9_; have HB := n10_; clear n0_ n1_ n2_ n3_ n4_ n5_ n6_ n7_ n8_ n9_ n10_; (try clear hb); (try clear hb2); (try clear hk); (try clear hi); (try clear ho0); obtain ⟨Ao55, co55, eo55⟩ := Kd.R_slice HO496.out; subst eo55) | ((with_reducible refine gate_callee (f := 27) rfl ?_); refine goesL_ (some 63) rfl rfl Try.func27 (by kernel_rfl) rfl #[.slice Ao21 t476.length co21, .slice Ao55 t494.length co55] rfl (by (try simp only [List.map_toArray, List.map_cons, List.map_nil]); first | done | rfl | (simp only [List.length_drop, List.length_take]; rfl)) ?_; (with_reducible refine (laws_eqEntryS.calls kj10 _ _ t476 _ _ t494 true _ ?side1 ?side2 ?side3 ?side4 A50.out).mono ?_); (case side1 => exact kc (Kd.R_reads' HO_11.out).2.2); (case side2 => exact (Kd.R_reads' HO_11.out).2.1); (case side3 => exact kc (Kd.R_reads' HO496.out).2.2); (case side4 => exact (Kd.R_reads' HO496.out).2.1); rintro e w56 ⟨rfl, hb⟩; refine ⟨_, rfl, ?_⟩; have n0_ := Aside0.mk (Kd.R_below (kr HO_9.out) hb); have n1_ := Aside0.mk (Kd.R_below (kr HO_11.out) hb); have n2_ := Aside0.mk (Kd.R_below (kr HO_13.out) hb); have n3_ := Aside0.mk (Kd.R_below (kr HO_476002.out) hb); have n4_ := Aside0.mk (Kd.R_below (kr HO_476003.out) hb); have n5_ := Aside0.mk (Kd.R_below (kr HO_492002.out) hb); have n6_ := Aside0.mk (Kd.R_below (kr HO_492003.out) hb); have n7_ := Aside0.mk (Kd.R_below (kr HO496.out) hb); have n8_ := Aside0.mk (blk_below (bk BK475.out) hb); have n9_ := Aside0.mk (blk_below (bk BK491.out) hb); have n10_ := Aside0.mk (below_step (bl2 HB.out GE475.out GE491.out) hb); clear HO_9; clear HO_11; clear HO_13; clear HO_476002; clear HO_476003; clear HO_492002; clear HO_492003; clear HO496; clear BK475; clear BK491; clear HB; have HO_9 := n0_; have HO_11 := n1_; have HO_13 := n2_; have HO_476002 := n3_; have HO_476003 := n4_; have HO_492002 := n5_; have HO_492003 := n6_; have HO496 := n7_; have BK475 := n8_; have BK491 := n9_; have HB := n10_; clear n0_ n1_ n2_ n3_ n4_ n5_ n6_ n7_ n8_ n9_ n10_; (try clear hb); (try clear hb2); (try clear hk); (try clear hi)) | ((with_reducible refine gate_callee (f := 28) rfl ?_); refine goesL_ (some 67) rfl rfl Try.func28 (by kernel_rfl) rfl #[.slice Ao21 t476.length co21, .int .i64 1] rfl (by (try simp only [List.map_toArray, List.map_cons, List.map_nil]); first | done | rfl | (simp only [List.length_drop, List.length_take]; rfl)) ?_; (with_reducible refine (laws_markEntryS.calls kj10 (fun k_ => some k_ = (.slice Ao21 t476.length co21 : Value).ownBlock) (.slice Ao21 t476.length co21) t476 1 t498 t499 w _ ?side1 ?side2 A52.out).mono ?_); (case side1 => exact bl2 HB.out GE475.out GE491.out); (case side2 => exact Kd.R_tight rfl HO_11.out); rintro e w57 ⟨rfl, hy0, hb, hkp⟩; refine ⟨_, rfl, ?_⟩; have n0_ := Aside0.mk (Kd.R_mono (ok' := fun k_ => some k_ ≠ (v488 : Value).ownBlock) (Kd.R_keptB ((Kd.R_apart' HO_9.out (Kd.R_typed HO_11.out) (by decide))) hkp (fun k_ hk_ hs_ => (hk_.2) hs_)) (fun k_ hk_ => hk_.1.1)); have n1_ := Aside0.mk (Kd.R_reok rfl hy0 (fun k_ e_ => HO_11.out.1 k_ e_)); have n2_ := Aside0.mk (Kd.R_mono (ok' := fun k_ => some k_ ≠ (v472 : Value).ownBlock) (Kd.R_keptB ((Kd.R_apart' HO_13.out (Kd.R_typed HO_11.out) (by decide))) hkp (fun k_ hk_ hs_ => (hk_.2) hs_)) (fun k_ hk_ => hk_.1.1)); have n3_ := Aside0.mk (Kd.R_mono (ok' := fun k_ => some k_ ≠ (.slice Ao21 t476.length co21 : Value).ownBlock ∧ some k_ ≠ (.slice Ao19 t468.length co19 : Value).ownBlock ∧ some k_ ≠ (.slice Ao26 t481.length co26 : Value).ownBlock ∧ some k_ ≠ (.slice Ao27 t484.length co27 : Value).ownBlock ∧ some k_ ≠ (.slice Ao55 t494.length co55 : Value).ownBlock) (Kd.R_keptB (HO_476002.out) hkp (fun k_ hk_ hs_ => (hk_.1.1) hs_)) (fun k_ hk_ => ⟨hk_.1.1.1, hk_.1.1.2.1, hk_.1.1.2.2.1, hk_.1.1.2.2.2, hk_.1.2⟩)); have n4_ := Aside0.mk (Kd.R_mono (ok' := fun k_ => some k_ ≠ (.slice Ao21 t476.length co21 : Value).ownBlock ∧ some k_ ≠ (.slice Ao18 t465.length co18 : Value).ownBlock ∧ some k_ ≠ (.slice Ao26 t481.length co26 : Value).ownBlock ∧ some k_ ≠ (.slice Ao27 t484.length co27 : Value).ownBlock ∧ some k_ ≠ (.slice Ao55 t494.length co55 : Value).ownBlock) (Kd.R_keptB (HO_476003.out) hkp (fun k_ hk_ hs_ => (hk_.1.1) hs_)) (fun k_ hk_ => ⟨hk_.1.1.1, hk_.1.1.2.1, hk_.1.1.2.2.1, hk_.1.1.2.2.2, hk_.1.2⟩)); have n5_ := Aside0.mk (Kd.R_mono (ok' := fun k_ => some k_ ≠ (.slice Ao21 t476.length co21 : Value).ownBlock ∧ some k_ ≠ (.slice Ao18 t465.length co18 : Value).ownBlock ∧ some k_ ≠ (.slice Ao19 t468.length co19 : Value).ownBlock ∧ some k_ ≠ (.slice Ao27 t484.length co27 : Value).ownBlock ∧ some k_ ≠ (.slice Ao55 t494.length co55 : Value).ownBlock) (Kd.R_keptB (HO_492002.out) hkp (fun k_ hk_ hs_ => (hk_.1.1) hs_)) (fun k_ hk_ => ⟨hk_.1.1.1, hk_.1.1.2.1, hk_.1.1.2.2.1, hk_.1.1.2.2.2, hk_.1.2⟩)); have n6_ := Aside0.mk (Kd.R_mono (ok' := fun k_ => some k_ ≠ (.slice Ao21 t476.length co21 : Value).ownBlock ∧ some k_ ≠ (.slice Ao18 t465.length co18 : Value).ownBlock ∧ some k_ ≠ (.slice Ao19 t468.length co19 : Value).ownBlock ∧ some k_ ≠ (.slice Ao26 t481.length co26 : Value).ownBlock ∧ some k_ ≠ (.slice Ao55 t494.length co55 : Value).ownBlock) (Kd.R_keptB (HO_492003.out) hkp (fun k_ hk_ hs_ => (hk_.1.1) hs_)) (fun k_ hk_ => ⟨hk_.1.1.1, hk_.1.1.2.1, hk_.1.1.2.2.1, hk_.1.1.2.2.2, hk_.1.2⟩)); have n7_ := Aside0.mk (blk_kept (bk BK475.out) hkp (fun hs_ => (fun e_ => (Kd.R_ne HO_11.out BK475.out (by decide)) e_) hs_)); have n8_ := Aside0.mk (blk_kept (bk BK491.out) hkp (fun hs_ => (fun e_ => (Kd.R_ne HO_11.out BK491.out (by decide)) e_) hs_)); have n9_ := Aside0.mk (Kd.R_mono (ok' := fun k_ => some k_ ≠ (.slice Ao21 t476.length co21 : Value).ownBlock ∧ some k_ ≠ (.slice Ao18 t465.length co18 : Value).ownBlock ∧ some k_ ≠ (.slice Ao19 t468.length co19 : Value).ownBlock ∧ some k_ ≠ (.slice Ao26 t481.length co26 : Value).ownBlock ∧ some k_ ≠ (.slice Ao27 t484.length co27 : Value).ownBlock) (Kd.R_keptB (HO496.out) hkp (fun k_ hk_ hs_ => (hk_.1.1.1.1.2) hs_)) (fun k_ hk_ => ⟨hk_.1.1.1.1.1.2, hk_.1.1.1.1.2, hk_.1.1.1.2, hk_.1.1.2, hk_.1.2⟩)); have n10_ := Aside0.mk (hb); clear HO_9; clear HO_11; clear HO_13; clear HO_476002; clear HO_476003; clear HO_492002; clear HO_492003; clear BK475; clear BK491; clear HO496; clear HB; have HO_9 := n0_; have HO_11 := n1_; have HO_13 := n2_; have HO_476002 := n3_; have HO_476003 := n4_; have HO_492002 := n5_; have HO_492003 := n6_; have BK475 := n7_; have BK491 := n8_; have HO496 := n9_; have HB := n10_; clear n0_ n1_ n2_ n3_ n4_ n5_ n6_ n7_ n8_ n9_ n10_; (try clear hb); (try clear hkp); (try clear hy0)))
      (try simp only [Act.put, List.setIfInBounds_toArray, List.set_cons_zero, List.set_cons_succ])
      go_cut [86] (fun v86 wc => ∃ (kq : Nat) (x86_52 : Bool), v86 = .bool x86_52 ∧ Aside0 (laws_FnExactPlaySegmented.j1 kq a0 a1 l2 t471 t474 t487 x86_52 t463 t464 t465 t468 t479 t480 t481 t484 = some r) ∧ Aside0 (kq ≤ kj10) ∧ Aside0 (Kd.R Kd.string 9 wc w.heap.size (fun k_ => some k_ ≠ (v488 : Value).ownBlock) v472 t471) ∧ Aside0 (Kd.R Kd.string 9 wc w.heap.size (fun k_ => some k_ ≠ (v472 : Value).ownBlock) v488 t487) ∧ Aside0 (Kd.R k45 45 wc w.heap.size (fun k_ => some k_ ≠ ((.slice Ao19 t468.length co19) : Value).ownBlock ∧ some k_ ≠ ((.slice Ao26 t481.length co26) : Value).ownBlock ∧ some k_ ≠ ((.slice Ao27 t484.length co27) : Value).ownBlock) (.slice Ao18 t465.length co18) t465) ∧ Aside0 (Kd.R k45 45 wc w.heap.size (fun k_ => some k_ ≠ ((.slice Ao18 t465.length co18) : Value).ownBlock ∧ some k_ ≠ ((.slice Ao26 t481.length co26) : Value).ownBlock ∧ some k_ ≠ ((.slice Ao27 t484.length co27) : Value).ownBlock) (.slice Ao19 t468.length co19) t468) ∧ Aside0 (Kd.R k45 45 wc w.heap.size (fun k_ => some k_ ≠ ((.slice Ao18 t465.length co18) : Value).ownBlock ∧ some k_ ≠ ((.slice Ao19 t468.length co19) : Value).ownBlock ∧ some k_ ≠ ((.slice Ao27 t484.length co27) : Value).ownBlock) (.slice Ao26 t481.length co26) t481) ∧ Aside0 (Kd.R k45 45 wc w.heap.size (fun k_ => some k_ ≠ ((.slice Ao18 t465.length co18) : Value).ownBlock ∧ some k_ ≠ ((.slice Ao19 t468.length co19) : Value).ownBlock ∧ some k_ ≠ ((.slice Ao26 t481.length co26) : Value).ownBlock) (.slice Ao27 t484.length co27) t484) ∧ Aside0 (wc.heap[gb475]? = some (.cells #[.int .i64 t463, .int .i64 t464, (.slice Ao18 t465.length co18), (.slice Ao19 t468.length co19)] 28 (0, 0))) ∧ Aside0 (wc.heap[gb491]? = some (.cells #[.int .i64 t479, .int .i64 t480, (.slice Ao26 t481.length co26), (.slice Ao27 t484.length co27)] 28 (0, 0))) ∧ Aside0 (Below w.heap.size w wc))
      case first =>
       have H := HC53.out
       clear HC53
       by_cases c58 : t498 < 0
       ·rw [if_pos c58] at H
        have c58b0 : decide (t498 < 0) = true := decide_eq_true c58
        clear c58
        (first | rw [c58b0] | (simp only [i64_w, i32_w]; rw [c58b0]) | skip)
        have H' := Aside0.mk H
        clear H
        go_wp2
        go_meet
        case rel => exact ⟨_, (true), (by first | rfl | (simp; done) | (simp [*]; done)), H', ⟨by have := HJ10.out; first | omega | exact Nat.le_refl _⟩, ⟨kr HO_9.out⟩, ⟨kr HO_13.out⟩, ⟨by (with_reducible repeat (first | apply Kd.R_alloc | apply Kd.R_drewN | apply Kd.R_drew)); exact Kd.R_mono HO_476002.out (fun _ hk => ⟨hk.2.1, ⟨hk.2.2.1, hk.2.2.2.1⟩⟩)⟩, ⟨by (with_reducible repeat (first | apply Kd.R_alloc | apply Kd.R_drewN | apply Kd.R_drew)); exact Kd.R_mono HO_476003.out (fun _ hk => ⟨hk.2.1, ⟨hk.2.2.1, hk.2.2.2.1⟩⟩)⟩, ⟨by (with_reducible repeat (first | apply Kd.R_alloc | apply Kd.R_drewN | apply Kd.R_drew)); exact Kd.R_mono HO_492002.out (fun _ hk => ⟨hk.2.1, ⟨hk.2.2.1, hk.2.2.2.1⟩⟩)⟩, ⟨by (with_reducible repeat (first | apply Kd.R_alloc | apply Kd.R_drewN | apply Kd.R_drew)); exact Kd.R_mono HO_492003.out (fun _ hk => ⟨hk.2.1, ⟨hk.2.2.1, hk.2.2.2.1⟩⟩)⟩, ⟨bk BK475.out⟩, ⟨bk BK491.out⟩, ⟨bl2 HB.out GE475.out GE491.out⟩⟩
       ·rw [if_neg c58] at H
        have c58b0 : decide (t498 < 0) = false := decide_eq_false c58
        clear c58
        (first | rw [c58b0] | (simp only [i64_w, i32_w]; rw [c58b0]) | skip)
        replace H := Option.bind_eq_some_iff.mp H
        obtain ⟨t500, A590, H⟩ := H
        try dsimp only at H
        have A59 := Aside0.mk A590
        clear A590
        by_cases c60 : t500 = true
        ·subst c60
         have H1 : ((laws_eqStringS.f kj10 t487 t471).bind fun t501 => (if t501 = true then (laws_FnExactPlaySegmented.j1 kj10 a0 a1 l2 t471 t474 t487 (t490 != t474) t463 t464 t465 t468 t479 t480 t481 t484) else (laws_FnExactPlaySegmented.j1 kj10 a0 a1 l2 t471 t474 t487 true t463 t464 t465 t468 t479 t480 t481 t484))) = some r := by rw [if_pos rfl] at H; exact H
         clear H
         have H := H1
         clear H1
         replace H := Option.bind_eq_some_iff.mp H
         obtain ⟨t501, A610, H⟩ := H
         try dsimp only at H
         have A61 := Aside0.mk A610
         clear A610
         by_cases c62 : t501 = true
         ·subst c62
          have H1 : (laws_FnExactPlaySegmented.j1 kj10 a0 a1 l2 t471 t474 t487 (t490 != t474) t463 t464 t465 t468 t479 t480 t481 t484) = some r := by rw [if_pos rfl] at H; exact H
          clear H
          have H := H1
          clear H1
          have H' := Aside0.mk H
          clear H
          have hnb63 := NB491_475.out
          have hnc63 := NB475_491.out
          have hcz64_0 := bc0 BK491.out
          have hcz64_1 := bc1 BK491.out
          have hcz64_2 := bc2 BK491.out
          have hcz64_3 := bc3 BK491.out
          have hfz64_0 := blk_frozen BK491.out 0
          have hfz64_1 := blk_frozen BK491.out 1
          have hfz64_2 := blk_frozen BK491.out 2
          have hfz64_3 := blk_frozen BK491.out 3
          have hcz65_0 := bc0 BK475.out
          have hcz65_1 := bc1 BK475.out
          have hcz65_2 := bc2 BK475.out
          have hcz65_3 := bc3 BK475.out
          have hfz65_0 := blk_frozen BK475.out 0
          have hfz65_1 := blk_frozen BK475.out 1
          have hfz65_2 := blk_frozen BK475.out 2
          have hfz65_3 := blk_frozen BK475.out 3
          go_wp2_with (first | (go_at_call 13; (with_reducible refine (laws_eqSegmented.calls kj10 t479 t480 _ _ t481 _ _ t484 t463 t464 _ _ t465 _ _ t468 true _ ?side1 ?side2 ?side3 ?side4 ?side5 ?side6 ?side7 ?side8 A59.out).mono ?_); (case side1 => exact kc (Kd.R_reads' HO_492002.out).2.2); (case side2 => exact (Kd.R_reads' HO_492002.out).2.1); (case side3 => exact kc (Kd.R_reads' HO_492003.out).2.2); (case side4 => exact (Kd.R_reads' HO_492003.out).2.1); (case side5 => exact kc (Kd.R_reads' HO_476002.out).2.2); (case side6 => exact (Kd.R_reads' HO_476002.out).2.1); (case side7 => exact kc (Kd.R_reads' HO_476003.out).2.2); (case side8 => exact (Kd.R_reads' HO_476003.out).2.1); rintro e w66 ⟨rfl, hb⟩; have n0_ := Aside0.mk (Kd.R_below (kr HO_9.out) hb); have n1_ := Aside0.mk (Kd.R_below (kr HO_11.out) hb); have n2_ := Aside0.mk (Kd.R_below (kr HO_13.out) hb); have n3_ := Aside0.mk (Kd.R_below (kr HO_476002.out) hb); have n4_ := Aside0.mk (Kd.R_below (kr HO_476003.out) hb); have n5_ := Aside0.mk (Kd.R_below (kr HO_492002.out) hb); have n6_ := Aside0.mk (Kd.R_below (kr HO_492003.out) hb); have n7_ := Aside0.mk (Kd.R_below (kr HO496.out) hb); have n8_ := Aside0.mk (blk_below (bk BK475.out) hb); have n9_ := Aside0.mk (blk_below (bk BK491.out) hb); have n10_ := Aside0.mk (below_step (bl2 HB.out GE475.out GE491.out) hb); clear HO_9; clear HO_11; clear HO_13; clear HO_476002; clear HO_476003; clear HO_492002; clear HO_492003; clear HO496; clear BK475; clear BK491; clear HB; have HO_9 := n0_; have HO_11 := n1_; have HO_13 := n2_; have HO_476002 := n3_; have HO_476003 := n4_; have HO_492002 := n5_; have HO_492003 := n6_; have HO496 := n7_; have BK475 := n8_; have BK491 := n9_; have HB := n10_; clear n0_ n1_ n2_ n3_ n4_ n5_ n6_ n7_ n8_ n9_ n10_; (try clear hb); (try clear hb2); (try clear hk); (try clear hi); obtain ⟨Ao67, co67, eo67⟩ := Kd.R_slice HO_13.out; subst eo67; obtain ⟨Ao68, co68, eo68⟩ := Kd.R_slice HO_9.out; subst eo68) | (go_at_call 34; (with_reducible refine (laws_eqStringS.calls kj10 _ _ t487 _ _ t471 true _ ?side1 ?side2 ?side3 ?side4 A61.out).mono ?_); (case side1 => exact kc (Kd.R_reads' HO_13.out).2.2); (case side2 => exact (Kd.R_reads' HO_13.out).2.1); (case side3 => exact kc (Kd.R_reads' HO_9.out).2.2); (case side4 => exact (Kd.R_reads' HO_9.out).2.1); rintro e w' ⟨rfl, ⟨nd, rfl⟩⟩))
          go_meet
          case rel => exact ⟨_, ((t490 != t474)), (by first | rfl | (simp; done) | (simp [*]; done)), H', ⟨by have := HJ10.out; first | omega | exact Nat.le_refl _⟩, ⟨kr HO_9.out⟩, ⟨kr HO_13.out⟩, ⟨by (with_reducible repeat (first | apply Kd.R_alloc | apply Kd.R_drewN | apply Kd.R_drew)); exact Kd.R_mono HO_476002.out (fun _ hk => ⟨hk.2.1, ⟨hk.2.2.1, hk.2.2.2.1⟩⟩)⟩, ⟨by (with_reducible repeat (first | apply Kd.R_alloc | apply Kd.R_drewN | apply Kd.R_drew)); exact Kd.R_mono HO_476003.out (fun _ hk => ⟨hk.2.1, ⟨hk.2.2.1, hk.2.2.2.1⟩⟩)⟩, ⟨by (with_reducible repeat (first | apply Kd.R_alloc | apply Kd.R_drewN | apply Kd.R_drew)); exact Kd.R_mono HO_492002.out (fun _ hk => ⟨hk.2.1, ⟨hk.2.2.1, hk.2.2.2.1⟩⟩)⟩, ⟨by (with_reducible repeat (first | apply Kd.R_alloc | apply Kd.R_drewN | apply Kd.R_drew)); exact Kd.R_mono HO_492003.out (fun _ hk => ⟨hk.2.1, ⟨hk.2.2.1, hk.2.2.2.1⟩⟩)⟩, ⟨bk BK475.out⟩, ⟨bk BK491.out⟩, ⟨bl2 HB.out GE475.out GE491.out⟩⟩
         ·replace c62 := Bool.eq_false_iff.mpr c62
          subst c62
          have H1 : (laws_FnExactPlaySegmented.j1 kj10 a0 a1 l2 t471 t474 t487 true t463 t464 t465 t468 t479 t480 t481 t484) = some r := by rw [if_neg (show ¬ (false = true) by decide)] at H; exact H
          clear H
          have H := H1
          clear H1
          have H' := Aside0.mk H
          clear H
          have hnb69 := NB491_475.out
          have hnc69 := NB475_491.out
          have hcz70_0 := bc0 BK491.out
          have hcz70_1 := bc1 BK491.out
          have hcz70_2 := bc2 BK491.out
          have hcz70_3 := bc3 BK491.out
          have hfz70_0 := blk_frozen BK491.out 0
          have hfz70_1 := blk_frozen BK491.out 1
          have hfz70_2 := blk_frozen BK491.out 2
          have hfz70_3 := blk_frozen BK491.out 3
          have hcz71_0 := bc0 BK475.out
          have hcz71_1 := bc1 BK475.out
          have hcz71_2 := bc2 BK475.out
          have hcz71_3 := bc3 BK475.out
          have hfz71_0 := blk_frozen BK475.out 0
          have hfz71_1 := blk_frozen BK475.out 1
          have hfz71_2 := blk_frozen BK475.out 2
          have hfz71_3 := blk_frozen BK475.out 3
          go_wp2_with (first | (go_at_call 13; (with_reducible refine (laws_eqSegmented.calls kj10 t479 t480 _ _ t481 _ _ t484 t463 t464 _ _ t465 _ _ t468 true _ ?side1 ?side2 ?side3 ?side4 ?side5 ?side6 ?side7 ?side8 A59.out).mono ?_); (case side1 => exact kc (Kd.R_reads' HO_492002.out).2.2); (case side2 => exact (Kd.R_reads' HO_492002.out).2.1); (case side3 => exact kc (Kd.R_reads' HO_492003.out).2.2); (case side4 => exact (Kd.R_reads' HO_492003.out).2.1); (case side5 => exact kc (Kd.R_reads' HO_476002.out).2.2); (case side6 => exact (Kd.R_reads' HO_476002.out).2.1); (case side7 => exact kc (Kd.R_reads' HO_476003.out).2.2); (case side8 => exact (Kd.R_reads' HO_476003.out).2.1); rintro e w72 ⟨rfl, hb⟩; have n0_ := Aside0.mk (Kd.R_below (kr HO_9.out) hb); have n1_ := Aside0.mk (Kd.R_below (kr HO_11.out) hb); have n2_ := Aside0.mk (Kd.R_below (kr HO_13.out) hb); have n3_ := Aside0.mk (Kd.R_below (kr HO_476002.out) hb); have n4_ := Aside0.mk (Kd.R_below (kr HO_476003.out) hb); have n5_ := Aside0.mk (Kd.R_below (kr HO_492002.out) hb); have n6_ := Aside0.mk (Kd.R_below (kr HO_492003.out) hb); have n7_ := Aside0.mk (Kd.R_below (kr HO496.out) hb); have n8_ := Aside0.mk (blk_below (bk BK475.out) hb); have n9_ := Aside0.mk (blk_below (bk BK491.out) hb); have n10_ := Aside0.mk (below_step (bl2 HB.out GE475.out GE491.out) hb); clear HO_9; clear HO_11; clear HO_13; clear HO_476002; clear HO_476003; clear HO_492002; clear HO_492003; clear HO496; clear BK475; clear BK491; clear HB; have HO_9 := n0_; have HO_11 := n1_; have HO_13 := n2_; have HO_476002 := n3_; have HO_476003 := n4_; have HO_492002 := n5_; have HO_492003 := n6_; have HO496 := n7_; have BK475 := n8_; have BK491 := n9_; have HB := n10_; clear n0_ n1_ n2_ n3_ n4_ n5_ n6_ n7_ n8_ n9_ n10_; (try clear hb); (try clear hb2); (try clear hk); (try clear hi); obtain ⟨Ao73, co73, eo73⟩ := Kd.R_slice HO_13.out; subst eo73; obtain ⟨Ao74, co74, eo74⟩ := Kd.R_slice HO_9.out; subst eo74) | (go_at_call 34; (with_reducible refine (laws_eqStringS.calls kj10 _ _ t487 _ _ t471 false _ ?side1 ?side2 ?side3 ?side4 A61.out).mono ?_); (case side1 => exact kc (Kd.R_reads' HO_13.out).2.2); (case side2 => exact (Kd.R_reads' HO_13.out).2.1); (case side3 => exact kc (Kd.R_reads' HO_9.out).2.2); (case side4 => exact (Kd.R_reads' HO_9.out).2.1); rintro e w' ⟨rfl, ⟨nd, rfl⟩⟩))
          go_meet
          case rel => exact ⟨_, (true), (by first | rfl | (simp; done) | (simp [*]; done)), H', ⟨by have := HJ10.out; first | omega | exact Nat.le_refl _⟩, ⟨kr HO_9.out⟩, ⟨kr HO_13.out⟩, ⟨by (with_reducible repeat (first | apply Kd.R_alloc | apply Kd.R_drewN | apply Kd.R_drew)); exact Kd.R_mono HO_476002.out (fun _ hk => ⟨hk.2.1, ⟨hk.2.2.1, hk.2.2.2.1⟩⟩)⟩, ⟨by (with_reducible repeat (first | apply Kd.R_alloc | apply Kd.R_drewN | apply Kd.R_drew)); exact Kd.R_mono HO_476003.out (fun _ hk => ⟨hk.2.1, ⟨hk.2.2.1, hk.2.2.2.1⟩⟩)⟩, ⟨by (with_reducible repeat (first | apply Kd.R_alloc | apply Kd.R_drewN | apply Kd.R_drew)); exact Kd.R_mono HO_492002.out (fun _ hk => ⟨hk.2.1, ⟨hk.2.2.1, hk.2.2.2.1⟩⟩)⟩, ⟨by (with_reducible repeat (first | apply Kd.R_alloc | apply Kd.R_drewN | apply Kd.R_drew)); exact Kd.R_mono HO_492003.out (fun _ hk => ⟨hk.2.1, ⟨hk.2.2.1, hk.2.2.2.1⟩⟩)⟩, ⟨bk BK475.out⟩, ⟨bk BK491.out⟩, ⟨bl2 HB.out GE475.out GE491.out⟩⟩
        ·replace c60 := Bool.eq_false_iff.mpr c60
         subst c60
         have H1 : (laws_FnExactPlaySegmented.j1 kj10 a0 a1 l2 t471 t474 t487 true t463 t464 t465 t468 t479 t480 t481 t484) = some r := by rw [if_neg (show ¬ (false = true) by decide)] at H; exact H
         clear H
         have H := H1
         clear H1
         have H' := Aside0.mk H
         clear H
         have hnb75 := NB491_475.out
         have hnc75 := NB475_491.out
         have hcz76_0 := bc0 BK491.out
         have hcz76_1 := bc1 BK491.out
         have hcz76_2 := bc2 BK491.out
         have hcz76_3 := bc3 BK491.out
         have hfz76_0 := blk_frozen BK491.out 0
         have hfz76_1 := blk_frozen BK491.out 1
         have hfz76_2 := blk_frozen BK491.out 2
         have hfz76_3 := blk_frozen BK491.out 3
         have hcz77_0 := bc0 BK475.out
         have hcz77_1 := bc1 BK475.out
         have hcz77_2 := bc2 BK475.out
         have hcz77_3 := bc3 BK475.out
         have hfz77_0 := blk_frozen BK475.out 0
         have hfz77_1 := blk_frozen BK475.out 1
         have hfz77_2 := blk_frozen BK475.out 2
         have hfz77_3 := blk_frozen BK475.out 3
         go_wp2_with (first | (go_at_call 13; (with_reducible refine (laws_eqSegmented.calls kj10 t479 t480 _ _ t481 _ _ t484 t463 t464 _ _ t465 _ _ t468 false _ ?side1 ?side2 ?side3 ?side4 ?side5 ?side6 ?side7 ?side8 A59.out).mono ?_); (case side1 => exact kc (Kd.R_reads' HO_492002.out).2.2); (case side2 => exact (Kd.R_reads' HO_492002.out).2.1); (case side3 => exact kc (Kd.R_reads' HO_492003.out).2.2); (case side4 => exact (Kd.R_reads' HO_492003.out).2.1); (case side5 => exact kc (Kd.R_reads' HO_476002.out).2.2); (case side6 => exact (Kd.R_reads' HO_476002.out).2.1); (case side7 => exact kc (Kd.R_reads' HO_476003.out).2.2); (case side8 => exact (Kd.R_reads' HO_476003.out).2.1); rintro e w78 ⟨rfl, hb⟩; have n0_ := Aside0.mk (Kd.R_below (kr HO_9.out) hb); have n1_ := Aside0.mk (Kd.R_below (kr HO_11.out) hb); have n2_ := Aside0.mk (Kd.R_below (kr HO_13.out) hb); have n3_ := Aside0.mk (Kd.R_below (kr HO_476002.out) hb); have n4_ := Aside0.mk (Kd.R_below (kr HO_476003.out) hb); have n5_ := Aside0.mk (Kd.R_below (kr HO_492002.out) hb); have n6_ := Aside0.mk (Kd.R_below (kr HO_492003.out) hb); have n7_ := Aside0.mk (Kd.R_below (kr HO496.out) hb); have n8_ := Aside0.mk (blk_below (bk BK475.out) hb); have n9_ := Aside0.mk (blk_below (bk BK491.out) hb); have n10_ := Aside0.mk (below_step (bl2 HB.out GE475.out GE491.out) hb); clear HO_9; clear HO_11; clear HO_13; clear HO_476002; clear HO_476003; clear HO_492002; clear HO_492003; clear HO496; clear BK475; clear BK491; clear HB; have HO_9 := n0_; have HO_11 := n1_; have HO_13 := n2_; have HO_476002 := n3_; have HO_476003 := n4_; have HO_492002 := n5_; have HO_492003 := n6_; have HO496 := n7_; have BK475 := n8_; have BK491 := n9_; have HB := n10_; clear n0_ n1_ n2_ n3_ n4_ n5_ n6_ n7_ n8_ n9_ n10_; (try clear hb); (try clear hb2); (try clear hk); (try clear hi)))
         go_meet
         case rel => exact ⟨_, (true), (by first | rfl | (simp; done) | (simp [*]; done)), H', ⟨by have := HJ10.out; first | omega | exact Nat.le_refl _⟩, ⟨kr HO_9.out⟩, ⟨kr HO_13.out⟩, ⟨by (with_reducible repeat (first | apply Kd.R_alloc | apply Kd.R_drewN | apply Kd.R_drew)); exact Kd.R_mono HO_476002.out (fun _ hk => ⟨hk.2.1, ⟨hk.2.2.1, hk.2.2.2.1⟩⟩)⟩, ⟨by (with_reducible repeat (first | apply Kd.R_alloc | apply Kd.R_drewN | apply Kd.R_drew)); exact Kd.R_mono HO_476003.out (fun _ hk => ⟨hk.2.1, ⟨hk.2.2.1, hk.2.2.2.1⟩⟩)⟩, ⟨by (with_reducible repeat (first | apply Kd.R_alloc | apply Kd.R_drewN | apply Kd.R_drew)); exact Kd.R_mono HO_492002.out (fun _ hk => ⟨hk.2.1, ⟨hk.2.2.1, hk.2.2.2.1⟩⟩)⟩, ⟨by (with_reducible repeat (first | apply Kd.R_alloc | apply Kd.R_drewN | apply Kd.R_drew)); exact Kd.R_mono HO_492003.out (fun _ hk => ⟨hk.2.1, ⟨hk.2.2.1, hk.2.2.2.1⟩⟩)⟩, ⟨bk BK475.out⟩, ⟨bk BK491.out⟩, ⟨bl2 HB.out GE475.out GE491.out⟩⟩
      case rest =>
       clear HC53
       try clear c1
       try clear c2
       try clear p2
       try clear c3
       try clear c4
       try clear c5
       try clear c5b0
       try clear c6
       try clear c7
       try clear c13
       try clear c17
       try clear c18
       try clear c24
       try clear c27
       try clear c28
       try clear c29
       try clear c31
       try clear c32
       try clear c33
       try clear c38
       try clear c44
       try clear c48
       try clear c51
       try clear c58
       try clear c58b0
       try clear c60
       try clear c62
       try clear c63
       try clear c69
       try clear c75
       try clear hcz17_0
       try clear hcz17_1
       try clear hcz17_2
       try clear hcz17_3
       try clear hcz25_0
       try clear hcz25_1
       try clear hcz25_2
       try clear hcz25_3
       try clear hcz33_0
       try clear hcz33_1
       try clear hcz33_2
       try clear hcz33_3
       try clear hcz34_0
       try clear hcz34_1
       try clear hcz34_2
       try clear hcz34_3
       try clear hcz39_0
       try clear hcz39_1
       try clear hcz39_2
       try clear hcz39_3
       try clear hcz40_0
       try clear hcz40_1
       try clear hcz40_2
       try clear hcz40_3
       try clear hcz45_0
       try clear hcz45_1
       try clear hcz45_2
       try clear hcz45_3
       try clear hcz46_0
       try clear hcz46_1
       try clear hcz46_2
       try clear hcz46_3
       try clear hcz64_0
       try clear hcz64_1
       try clear hcz64_2
       try clear hcz64_3
       try clear hcz65_0
       try clear hcz65_1
       try clear hcz65_2
       try clear hcz65_3
       try clear hcz70_0
       try clear hcz70_1
       try clear hcz70_2
       try clear hcz70_3
       try clear hcz71_0
       try clear hcz71_1
       try clear hcz71_2
       try clear hcz71_3
       try clear hcz76_0
       try clear hcz76_1
       try clear hcz76_2
       try clear hcz76_3
       try clear hcz77_0
       try clear hcz77_1
       try clear hcz77_2
       try clear hcz77_3
       try clear hfz17_0
       try clear hfz17_1
       try clear hfz17_2
       try clear hfz17_3
       try clear hfz25_0
       try clear hfz25_1
       try clear hfz25_2
       try clear hfz25_3
       try clear hfz33_0
       try clear hfz33_1
       try clear hfz33_2
       try clear hfz33_3
       try clear hfz34_0
       try clear hfz34_1
       try clear hfz34_2
       try clear hfz34_3
       try clear hfz39_0
       try clear hfz39_1
       try clear hfz39_2
       try clear hfz39_3
       try clear hfz40_0
       try clear hfz40_1
       try clear hfz40_2
       try clear hfz40_3
       try clear hfz45_0
       try clear hfz45_1
       try clear hfz45_2
       try clear hfz45_3
       try clear hfz46_0
       try clear hfz46_1
       try clear hfz46_2
       try clear hfz46_3
       try clear hfz64_0
       try clear hfz64_1
       try clear hfz64_2
       try clear hfz64_3
       try clear hfz65_0
       try clear hfz65_1
       try clear hfz65_2
       try clear hfz65_3
       try clear hfz70_0
       try clear hfz70_1
       try clear hfz70_2
       try clear hfz70_3
       try clear hfz71_0
       try clear hfz71_1
       try clear hfz71_2
       try clear hfz71_3
       try clear hfz76_0
       try clear hfz76_1
       try clear hfz76_2
       try clear hfz76_3
       try clear hfz77_0
       try clear hfz77_1
       try clear hfz77_2
       try clear hfz77_3
       try clear p2
       obtain ⟨kq, x86_52, rfl, HA, HJ52, HO_9, HO_13, HO_476002, HO_476003, HO_492002, HO_492003, BK475, BK491, HB⟩ := hcut
       cases kq with
       | zero => exact absurd HA.out (by simp [laws_FnExactPlaySegmented.j1])
       | succ kj52 =>
        have H := HA.out
        clear HA
        simp only [laws_FnExactPlaySegmented.j1] at H
        by_cases c79 : x86_52 = true
        ·subst c79
         have H1 : (none) = some r := by rw [if_pos rfl] at H; exact H
         clear H
         have H := H1
         clear H1
         exact absurd H (by simp)
        ·replace c79 := Bool.eq_false_iff.mpr c79
         subst c79
         have H1 : ((laws_markSegmented.f kj52 t479 t480 t481 t484 1).bind fun bt502 => ((laws_markStringS.f kj52 t487 bt502.1).bind fun bt505 => ((laws_heldSegmented.f kj52 t479 t480 bt502.2.1 bt502.2.2 1).bind fun t507 => (if t507 < 0 then (none) else ((laws_heldStringS.f kj52 bt505.2 t507).bind fun t508 => (if t508 < 0 then (none) else (if t508 = bt505.1 then ((laws_toEntryS.f kj52 l2).bind fun t509 => ((impl_PlaySegmented.f kj52 a0 a1 t509).bind fun bt512 => ((laws_eqSegmented.f kj52 bt512.1 bt512.2.1 bt512.2.2.1 bt512.2.2.2.1 t463 t464 t465 t468).bind fun t525 => (if t525 = true then ((laws_eqStringS.f kj52 bt512.2.2.2.2.1 t471).bind fun t526 => (if t526 = true then (laws_FnExactPlaySegmented.j2 kj52 bt505.2 bt505.1 (bt512.2.2.2.2.2 != t474) t479 t480 bt502.2.1 bt502.2.2) else (laws_FnExactPlaySegmented.j2 kj52 bt505.2 bt505.1 true t479 t480 bt502.2.1 bt502.2.2))) else (laws_FnExactPlaySegmented.j2 kj52 bt505.2 bt505.1 true t479 t480 bt502.2.1 bt502.2.2))))) else (none)))))))) = some r := by rw [if_neg (show ¬ (false = true) by decide)] at H; exact H
         clear H
         have H := H1
         clear H1
         replace H := Option.bind_eq_some_iff.mp H
         obtain ⟨⟨t502, t503, t504⟩, A800, H⟩ := H
         try dsimp only at H
         have A80 := Aside0.mk A800
         clear A800
         replace H := Option.bind_eq_some_iff.mp H
         obtain ⟨⟨t505, t506⟩, A810, H⟩ := H
         try dsimp only at H
         have A81 := Aside0.mk A810
         clear A810
         replace H := Option.bind_eq_some_iff.mp H
         obtain ⟨t507, A820, H⟩ := H
         try dsimp only at H
         have A82 := Aside0.mk A820
         clear A820
         by_cases c83 : t507 < 0
         ·rw [if_pos c83] at H
          exact absurd H (by simp)
         ·rw [if_neg c83] at H
          have c83b0 : decide (t507 < 0) = false := decide_eq_false c83
          clear c83
          replace H := Option.bind_eq_some_iff.mp H
          obtain ⟨t508, A840, H⟩ := H
          try dsimp only at H
          have A84 := Aside0.mk A840
          clear A840
          by_cases c85 : t508 < 0
          ·rw [if_pos c85] at H
           exact absurd H (by simp)
          ·rw [if_neg c85] at H
           have c85b0 : decide (t508 < 0) = false := decide_eq_false c85
           clear c85
           by_cases c86 : t508 = t505
           ·rw [if_pos c86] at H
            have c86b0 : (t508 == t505) = true := beq_iff_eq.mpr c86
            have c86b1 : (t508 != t505) = false := bne_eq_false_iff_eq.mpr c86
            clear c86
            replace H := Option.bind_eq_some_iff.mp H
            obtain ⟨t509, A870, H⟩ := H
            try dsimp only at H
            have A87 := Aside0.mk A870
            clear A870
            replace H := Option.bind_eq_some_iff.mp H
            obtain ⟨⟨t512, t513, t514, t517, t520, t523⟩, A880, H⟩ := H
            try dsimp only at H
            have A88 := Aside0.mk A880
            clear A880
            have HC89 := Aside0.mk H
            clear H
            have hnb90 := NB491_475.out
            have hnc90 := NB475_491.out
            have hcz91_0 := bc0 BK491.out
            have hcz91_1 := bc1 BK491.out
            have hcz91_2 := bc2 BK491.out
            have hcz91_3 := bc3 BK491.out
            have hfz91_0 := blk_frozen BK491.out 0
            have hfz91_1 := blk_frozen BK491.out 1
            have hfz91_2 := blk_frozen BK491.out 2
            have hfz91_3 := blk_frozen BK491.out 3
            go_upto_region 29 with (first | ((with_reducible refine gate_callee (f := 14) rfl ?_); refine goesL_ (some 89) rfl rfl Try.func14 (by kernel_rfl) rfl #[.agg #[.int .i64 t479, .int .i64 t480, .slice Ao26 t481.length co26, .slice Ao27 t484.length co27], .int .i64 1] rfl (by (try simp only [List.map_toArray, List.map_cons, List.map_nil]); first | done | rfl | (simp only [List.length_drop, List.length_take]; rfl)) ?_; (with_reducible refine (laws_markSegmented.calls kj52 t479 t480 (fun k_ => some k_ = (.slice Ao26 t481.length co26 : Value).ownBlock) (.slice Ao26 t481.length co26) t481 (fun k_ => some k_ = (.slice Ao27 t484.length co27 : Value).ownBlock) (.slice Ao27 t484.length co27) t484 1 t502 t503 t504 w _ ?side1 ?side2 ?side3 ?side4 ?side5 A80.out).mono ?_); (case side1 => exact bl2 HB.out GE475.out GE491.out); (case side2 => exact Kd.R_tight rfl HO_492002.out); (case side3 => exact fun k_ e_ => (HO_492002.out.1 k_ e_.symm).2.2); (case side4 => exact Kd.R_tight rfl HO_492003.out); (case side5 => exact fun k_ e_ => (HO_492003.out.1 k_ e_.symm).2.2); rintro e w92 ⟨rfl, hy0, hy1, hb, hkp⟩; refine ⟨_, rfl, ?_⟩; have n0_ := Aside0.mk (Kd.R_mono (ok' := fun k_ => some k_ ≠ (v488 : Value).ownBlock) (Kd.R_keptB ((Kd.R_apart' (Kd.R_apart' HO_9.out (Kd.R_typed HO_492002.out) (by decide)) (Kd.R_typed HO_492003.out) (by decide))) hkp (fun k_ hk_ hs_ => Or.elim hs_ (fun e_ => (hk_.1.2) e_) (fun e_ => (hk_.2) e_))) (fun k_ hk_ => hk_.1.1.1)); have n1_ := Aside0.mk (Kd.R_mono (ok' := fun k_ => some k_ ≠ (v472 : Value).ownBlock) (Kd.R_keptB ((Kd.R_apart' (Kd.R_apart' HO_13.out (Kd.R_typed HO_492002.out) (by decide)) (Kd.R_typed HO_492003.out) (by decide))) hkp (fun k_ hk_ hs_ => Or.elim hs_ (fun e_ => (hk_.1.2) e_) (fun e_ => (hk_.2) e_))) (fun k_ hk_ => hk_.1.1.1)); have n2_ := Aside0.mk (Kd.R_mono (ok' := fun k_ => some k_ ≠ (.slice Ao19 t468.length co19 : Value).ownBlock ∧ some k_ ≠ (.slice Ao26 t481.length co26 : Value).ownBlock ∧ some k_ ≠ (.slice Ao27 t484.length co27 : Value).ownBlock) (Kd.R_keptB (HO_476002.out) hkp (fun k_ hk_ hs_ => Or.elim hs_ (fun e_ => (hk_.2.1) e_) (fun e_ => (hk_.2.2) e_))) (fun k_ hk_ => ⟨hk_.1.1, hk_.1.2.1, hk_.1.2.2⟩)); have n3_ := Aside0.mk (Kd.R_mono (ok' := fun k_ => some k_ ≠ (.slice Ao18 t465.length co18 : Value).ownBlock ∧ some k_ ≠ (.slice Ao26 t481.length co26 : Value).ownBlock ∧ some k_ ≠ (.slice Ao27 t484.length co27 : Value).ownBlock) (Kd.R_keptB (HO_476003.out) hkp (fun k_ hk_ hs_ => Or.elim hs_ (fun e_ => (hk_.2.1) e_) (fun e_ => (hk_.2.2) e_))) (fun k_ hk_ => ⟨hk_.1.1, hk_.1.2.1, hk_.1.2.2⟩)); have n4_ := Aside0.mk (Kd.R_reok rfl hy0 (fun k_ e_ => HO_492002.out.1 k_ e_)); have n5_ := Aside0.mk (Kd.R_reok rfl hy1 (fun k_ e_ => HO_492003.out.1 k_ e_)); have n6_ := Aside0.mk (blk_kept (bk BK475.out) hkp (fun hs_ => Or.elim hs_ (fun e_ => (fun e_ => (Kd.R_ne HO_492002.out BK475.out (by decide)) e_) e_) (fun e_ => (fun e_ => (Kd.R_ne HO_492003.out BK475.out (by decide)) e_) e_))); have n7_ := Aside0.mk (blk_kept (bk BK491.out) hkp (fun hs_ => Or.elim hs_ (fun e_ => (fun e_ => (Kd.R_ne HO_492002.out BK491.out (by decide)) e_) e_) (fun e_ => (fun e_ => (Kd.R_ne HO_492003.out BK491.out (by decide)) e_) e_))); have n8_ := Aside0.mk (hb); clear HO_9; clear HO_13; clear HO_476002; clear HO_476003; clear HO_492002; clear HO_492003; clear BK475; clear BK491; clear HB; have HO_9 := n0_; have HO_13 := n1_; have HO_476002 := n2_; have HO_476003 := n3_; have HO_492002 := n4_; have HO_492003 := n5_; have BK475 := n6_; have BK491 := n7_; have HB := n8_; clear n0_ n1_ n2_ n3_ n4_ n5_ n6_ n7_ n8_; (try clear hb); (try clear hkp); (try clear hy0); (try clear hy1); obtain ⟨Ao93, co93, eo93⟩ := Kd.R_slice HO_13.out; subst eo93) | ((with_reducible refine gate_callee (f := 35) rfl ?_); refine goesL_ (some 92) rfl rfl Try.func35 (by kernel_rfl) rfl #[.slice Ao93 t487.length co93, .int .i64 t502] rfl (by (try simp only [List.map_toArray, List.map_cons, List.map_nil]); first | done | rfl | (simp only [List.length_drop, List.length_take]; rfl)) ?_; (with_reducible refine (laws_markStringS.calls kj52 (fun k_ => some k_ = (.slice Ao93 t487.length co93 : Value).ownBlock) (.slice Ao93 t487.length co93) t487 t502 t505 t506 w _ ?side1 ?side2 A81.out).mono ?_); (case side1 => exact bl2 HB.out GE475.out GE491.out); (case side2 => exact Kd.R_tight rfl HO_13.out); rintro e w94 ⟨rfl, hy0, hb, hkp⟩; refine ⟨_, rfl, ?_⟩; have n0_ := Aside0.mk (Kd.R_mono (ok' := fun k_ => some k_ ≠ (.slice Ao93 t487.length co93 : Value).ownBlock) (Kd.R_keptB (HO_9.out) hkp (fun k_ hk_ hs_ => (hk_) hs_)) (fun k_ hk_ => hk_.1)); have n1_ := Aside0.mk (Kd.R_reok rfl hy0 (fun k_ e_ => HO_13.out.1 k_ e_)); have n2_ := Aside0.mk (Kd.R_mono (ok' := fun k_ => some k_ ≠ (.slice Ao19 t468.length co19 : Value).ownBlock ∧ some k_ ≠ (.slice Ao26 t481.length co26 : Value).ownBlock ∧ some k_ ≠ (.slice Ao27 t484.length co27 : Value).ownBlock) (Kd.R_keptB ((Kd.R_apart' HO_476002.out (Kd.R_typed HO_13.out) (by decide))) hkp (fun k_ hk_ hs_ => (hk_.2) hs_)) (fun k_ hk_ => ⟨hk_.1.1.1, hk_.1.1.2.1, hk_.1.1.2.2⟩)); have n3_ := Aside0.mk (Kd.R_mono (ok' := fun k_ => some k_ ≠ (.slice Ao18 t465.length co18 : Value).ownBlock ∧ some k_ ≠ (.slice Ao26 t481.length co26 : Value).ownBlock ∧ some k_ ≠ (.slice Ao27 t484.length co27 : Value).ownBlock) (Kd.R_keptB ((Kd.R_apart' HO_476003.out (Kd.R_typed HO_13.out) (by decide))) hkp (fun k_ hk_ hs_ => (hk_.2) hs_)) (fun k_ hk_ => ⟨hk_.1.1.1, hk_.1.1.2.1, hk_.1.1.2.2⟩)); have n4_ := Aside0.mk (Kd.R_mono (ok' := fun k_ => some k_ ≠ (.slice Ao18 t465.length co18 : Value).ownBlock ∧ some k_ ≠ (.slice Ao19 t468.length co19 : Value).ownBlock ∧ some k_ ≠ (.slice Ao27 t484.length co27 : Value).ownBlock) (Kd.R_keptB ((Kd.R_apart' HO_492002.out (Kd.R_typed HO_13.out) (by decide))) hkp (fun k_ hk_ hs_ => (hk_.2) hs_)) (fun k_ hk_ => ⟨hk_.1.1.1, hk_.1.1.2.1, hk_.1.1.2.2⟩)); have n5_ := Aside0.mk (Kd.R_mono (ok' := fun k_ => some k_ ≠ (.slice Ao18 t465.length co18 : Value).ownBlock ∧ some k_ ≠ (.slice Ao19 t468.length co19 : Value).ownBlock ∧ some k_ ≠ (.slice Ao26 t481.length co26 : Value).ownBlock) (Kd.R_keptB ((Kd.R_apart' HO_492003.out (Kd.R_typed HO_13.out) (by decide))) hkp (fun k_ hk_ hs_ => (hk_.2) hs_)) (fun k_ hk_ => ⟨hk_.1.1.1, hk_.1.1.2.1, hk_.1.1.2.2⟩)); have n6_ := Aside0.mk (blk_kept (bk BK475.out) hkp (fun hs_ => (fun e_ => (Kd.R_ne HO_13.out BK475.out (by decide)) e_) hs_)); have n7_ := Aside0.mk (blk_kept (bk BK491.out) hkp (fun hs_ => (fun e_ => (Kd.R_ne HO_13.out BK491.out (by decide)) e_) hs_)); have n8_ := Aside0.mk (hb); clear HO_9; clear HO_13; clear HO_476002; clear HO_476003; clear HO_492002; clear HO_492003; clear BK475; clear BK491; clear HB; have HO_9 := n0_; have HO_13 := n1_; have HO_476002 := n2_; have HO_476003 := n3_; have HO_492002 := n4_; have HO_492003 := n5_; have BK475 := n6_; have BK491 := n7_; have HB := n8_; clear n0_ n1_ n2_ n3_ n4_ n5_ n6_ n7_ n8_; (try clear hb); (try clear hkp); (try clear hy0); have hcz95_0 := bc0 BK491.out; have hcz95_1 := bc1 BK491.out; have hcz95_2 := bc2 BK491.out; have hcz95_3 := bc3 BK491.out; have hfz95_0 := blk_frozen BK491.out 0; have hfz95_1 := blk_frozen BK491.out 1; have hfz95_2 := blk_frozen BK491.out 2; have hfz95_3 := blk_frozen BK491.out 3) | ((with_reducible refine gate_callee (f := 15) rfl ?_); refine goesL_ (some 95) rfl rfl Try.func15 (by kernel_rfl) rfl #[.agg #[.int .i64 t479, .int .i64 t480, .slice Ao26 t503.length co26, .slice Ao27 t504.length co27], .int .i64 1] rfl (by (try simp only [List.map_toArray, List.map_cons, List.map_nil]); first | done | (rw [show t503.length = t481.length from (Kd.R_reads' HO_492002.out).1.symm, show t504.length = t484.length from (Kd.R_reads' HO_492003.out).1.symm] <;> rfl) | rfl | (simp only [List.length_drop, List.length_take]; rfl)) ?_; (with_reducible refine (laws_heldSegmented.calls kj52 t479 t480 _ _ t503 _ _ t504 1 t507 _ ?side1 ?side2 ?side3 ?side4 A82.out).mono ?_); (case side1 => exact kc (Kd.R_reads' HO_492002.out).2.2); (case side2 => rw [show t503.length = t481.length from (Kd.R_reads' HO_492002.out).1.symm]; exact (Kd.R_reads' HO_492002.out).2.1); (case side3 => exact kc (Kd.R_reads' HO_492003.out).2.2); (case side4 => rw [show t504.length = t484.length from (Kd.R_reads' HO_492003.out).1.symm]; exact (Kd.R_reads' HO_492003.out).2.1); rintro e w96 ⟨rfl, hb⟩; refine ⟨_, rfl, ?_⟩; have n0_ := Aside0.mk (Kd.R_below (kr HO_9.out) hb); have n1_ := Aside0.mk (Kd.R_below (kr HO_13.out) hb); have n2_ := Aside0.mk (Kd.R_below (kr HO_476002.out) hb); have n3_ := Aside0.mk (Kd.R_below (kr HO_476003.out) hb); have n4_ := Aside0.mk (Kd.R_below (kr HO_492002.out) hb); have n5_ := Aside0.mk (Kd.R_below (kr HO_492003.out) hb); have n6_ := Aside0.mk (blk_below (bk BK475.out) hb); have n7_ := Aside0.mk (blk_below (bk BK491.out) hb); have n8_ := Aside0.mk (below_step (bl2 HB.out GE475.out GE491.out) hb); clear HO_9; clear HO_13; clear HO_476002; clear HO_476003; clear HO_492002; clear HO_492003; clear BK475; clear BK491; clear HB; have HO_9 := n0_; have HO_13 := n1_; have HO_476002 := n2_; have HO_476003 := n3_; have HO_492002 := n4_; have HO_492003 := n5_; have BK475 := n6_; have BK491 := n7_; have HB := n8_; clear n0_ n1_ n2_ n3_ n4_ n5_ n6_ n7_ n8_; (try clear hb); (try clear hb2); (try clear hk); (try clear hi)) | ((with_reducible refine gate_callee (f := 36) rfl ?_); refine goesL_ (some 100) rfl rfl Try.func36 (by kernel_rfl) rfl #[.slice Ao93 t506.length co93, .int .i64 t507] rfl (by (try simp only [List.map_toArray, List.map_cons, List.map_nil]); first | done | (rw [show t506.length = t487.length from (Kd.R_reads' HO_13.out).1.symm] <;> rfl) | rfl | (simp only [List.length_drop, List.length_take]; rfl)) ?_; (with_reducible refine (laws_heldStringS.calls kj52 _ _ t506 t507 t508 _ ?side1 ?side2 A84.out).mono ?_); (case side1 => exact kc (Kd.R_reads' HO_13.out).2.2); (case side2 => rw [show t506.length = t487.length from (Kd.R_reads' HO_13.out).1.symm]; exact (Kd.R_reads' HO_13.out).2.1); rintro e w97 ⟨rfl, hb⟩; refine ⟨_, rfl, ?_⟩; have n0_ := Aside0.mk (Kd.R_below (kr HO_9.out) hb); have n1_ := Aside0.mk (Kd.R_below (kr HO_13.out) hb); have n2_ := Aside0.mk (Kd.R_below (kr HO_476002.out) hb); have n3_ := Aside0.mk (Kd.R_below (kr HO_476003.out) hb); have n4_ := Aside0.mk (Kd.R_below (kr HO_492002.out) hb); have n5_ := Aside0.mk (Kd.R_below (kr HO_492003.out) hb); have n6_ := Aside0.mk (blk_below (bk BK475.out) hb); have n7_ := Aside0.mk (blk_below (bk BK491.out) hb); have n8_ := Aside0.mk (below_step (bl2 HB.out GE475.out GE491.out) hb); clear HO_9; clear HO_13; clear HO_476002; clear HO_476003; clear HO_492002; clear HO_492003; clear BK475; clear BK491; clear HB; have HO_9 := n0_; have HO_13 := n1_; have HO_476002 := n2_; have HO_476003 := n3_; have HO_492002 := n4_; have HO_492003 := n5_; have BK475 := n6_; have BK491 := n7_; have HB := n8_; clear n0_ n1_ n2_ n3_ n4_ n5_ n6_ n7_ n8_; (try clear hb); (try clear hb2); (try clear hk); (try clear hi)) | ((with_reducible refine gate_callee (f := 33) rfl ?_); refine goesL_ (some 110) rfl rfl Try.func33 (by kernel_rfl) rfl #[.slice A2 l2.length c2] rfl (by (try simp only [List.map_toArray, List.map_cons, List.map_nil]); first | done | rfl | (simp only [List.length_drop, List.length_take]; rfl)) ?_; (with_reducible refine (laws_toEntryS.calls kj52 _ _ l2 t509 _ ?side1 ?side2 A87.out).mono ?_); (case side1 => exact kc (Kd.C_below HR2.out HB.out)); (case side2 => exact HC2.out); rintro e w98 ⟨v510, rfl, ho0, hb⟩; refine ⟨_, rfl, ?_⟩; have n0_ := Aside0.mk (Kd.R_below (kr HO_9.out) hb); have n1_ := Aside0.mk (Kd.R_below (kr HO_13.out) hb); have n2_ := Aside0.mk (Kd.R_elder' (kr HO_476002.out) (Kd.R_base ho0) hb); have n3_ := Aside0.mk (Kd.R_elder' (kr HO_476003.out) (Kd.R_base ho0) hb); have n4_ := Aside0.mk (Kd.R_elder' (kr HO_492002.out) (Kd.R_base ho0) hb); have n5_ := Aside0.mk (Kd.R_elder' (kr HO_492003.out) (Kd.R_base ho0) hb); have n6_ := Aside0.mk (Kd.R_lower (Kd.R_new' (Kd.R_new' (Kd.R_new' (Kd.R_new' ho0 (Kd.R_lt (kr HO_476002.out))) (Kd.R_lt (kr HO_476003.out))) (Kd.R_lt (kr HO_492002.out))) (Kd.R_lt (kr HO_492003.out))) (below_size (bl2 HB.out GE475.out GE491.out))); have n7_ := Aside0.mk (blk_below (bk BK475.out) hb); have n8_ := Aside0.mk (blk_below (bk BK491.out) hb); have n9_ := Aside0.mk (below_step (bl2 HB.out GE475.out GE491.out) hb); clear HO_9; clear HO_13; clear HO_476002; clear HO_476003; clear HO_492002; clear HO_492003; clear BK475; clear BK491; clear HB; have HO_9 := n0_; have HO_13 := n1_; have HO_476002 := n2_; have HO_476003 := n3_; have HO_492002 := n4_; have HO_492003 := n5_; have HO511 := n6_; have BK475 := n7_; have BK491 := n8_; have HB := n9_; clear n0_ n1_ n2_ n3_ n4_ n5_ n6_ n7_ n8_ n9_; (try clear hb); (try clear hb2); (try clear hk); (try clear hi); (try clear ho0); obtain ⟨Ao99, co99, eo99⟩ := Kd.R_slice HO511.out; subst eo99) | ((with_reducible refine gate_callee (f := 17) rfl ?_); refine goesL_ (some 111) rfl rfl Try.func17 (by kernel_rfl) rfl #[.int .i64 a0, .int .i64 a1, .slice Ao99 t509.length co99] rfl (by (try simp only [List.map_toArray, List.map_cons, List.map_nil]); first | done | rfl | (simp only [List.length_drop, List.length_take]; rfl)) ?_; (with_reducible refine (impl_PlaySegmented.calls kj52 a0 a1 _ _ t509 t512 t513 t514 t517 t520 t523 _ ?side1 ?side2 A88.out).mono ?_); (case side1 => exact kc (Kd.R_reads' HO511.out).2.2); (case side2 => exact (Kd.R_reads' HO511.out).2.1); rintro e w100 ⟨v515, v518, v521, rfl, ho0, ho1, ho2, hb⟩; refine ⟨_, rfl, ?_⟩; have n0_ := Aside0.mk (Kd.R_elder' (kr HO_9.out) (Kd.R_base ho2) hb); have n1_ := Aside0.mk (Kd.R_elder' (kr HO_13.out) (Kd.R_base ho2) hb); have n2_ := Aside0.mk (Kd.R_mono (Kd.R_told (Kd.R_told (Kd.R_old (kr HO_476002.out) hb) (Kd.R_base ho0)) (Kd.R_base ho1)) (fun _ h_ => h_.1)); have n3_ := Aside0.mk (Kd.R_mono (Kd.R_told (Kd.R_told (Kd.R_old (kr HO_476003.out) hb) (Kd.R_base ho0)) (Kd.R_base ho1)) (fun _ h_ => h_.1)); have n4_ := Aside0.mk (Kd.R_mono (Kd.R_told (Kd.R_told (Kd.R_old (kr HO_492002.out) hb) (Kd.R_base ho0)) (Kd.R_base ho1)) (fun _ h_ => h_.1)); have n5_ := Aside0.mk (Kd.R_mono (Kd.R_told (Kd.R_told (Kd.R_old (kr HO_492003.out) hb) (Kd.R_base ho0)) (Kd.R_base ho1)) (fun _ h_ => h_.1)); have n6_ := Aside0.mk (Kd.R_mono (Kd.R_told (Kd.R_told (Kd.R_old (kr HO511.out) hb) (Kd.R_base ho0)) (Kd.R_base ho1)) (fun _ h_ => h_.1)); have n7_ := Aside0.mk (Kd.R_lower (Kd.R_new' (Kd.R_new' (Kd.R_new' (Kd.R_new' (Kd.R_new' ho0 (Kd.R_lt (kr HO_476002.out))) (Kd.R_lt (kr HO_476003.out))) (Kd.R_lt (kr HO_492002.out))) (Kd.R_lt (kr HO_492003.out))) (Kd.R_lt (kr HO511.out))) (below_size (bl2 HB.out GE475.out GE491.out))); have n8_ := Aside0.mk (Kd.R_lower (Kd.R_new' (Kd.R_new' (Kd.R_new' (Kd.R_new' (Kd.R_new' ho1 (Kd.R_lt (kr HO_476002.out))) (Kd.R_lt (kr HO_476003.out))) (Kd.R_lt (kr HO_492002.out))) (Kd.R_lt (kr HO_492003.out))) (Kd.R_lt (kr HO511.out))) (below_size (bl2 HB.out GE475.out GE491.out))); have n9_ := Aside0.mk (Kd.R_lower (Kd.R_new' (Kd.R_new' ho2 (Kd.R_lt (kr HO_9.out))) (Kd.R_lt (kr HO_13.out))) (below_size (bl2 HB.out GE475.out GE491.out))); have n10_ := Aside0.mk (blk_below (bk BK475.out) hb); have n11_ := Aside0.mk (blk_below (bk BK491.out) hb); have n12_ := Aside0.mk (below_step (bl2 HB.out GE475.out GE491.out) hb); clear HO_9; clear HO_13; clear HO_476002; clear HO_476003; clear HO_492002; clear HO_492003; clear HO511; clear BK475; clear BK491; clear HB; have HO_9 := n0_; have HO_13 := n1_; have HO_476002 := n2_; have HO_476003 := n3_; have HO_492002 := n4_; have HO_492003 := n5_; have HO511 := n6_; have HO516 := n7_; have HO519 := n8_; have HO522 := n9_; have BK475 := n10_; have BK491 := n11_; have HB := n12_; clear n0_ n1_ n2_ n3_ n4_ n5_ n6_ n7_ n8_ n9_ n10_ n11_ n12_; (try clear hb); (try clear hb2); (try clear hk); (try clear hi); (try clear ho0); (try clear ho1); (try clear ho2)) | ((with_reducible refine gate_dst (N := 18) rfl ?_); refine box_event ?hg (N := 18) ?hd (cs := #[.int .i64 0, .int .i64 0, .slice none 0 0, .slice none 0 0]) (t := 28) ?hr ?_; (case hd => rfl); (case hg => rfl); (case hr => first | (go_simp; done) | (go_simp; rfl)); intro gb524 hg w101 hbox hb; have n0_ := Aside0.mk (Kd.R_below (kr HO_9.out) hb); have n1_ := Aside0.mk (Kd.R_below (kr HO_13.out) hb); have n2_ := Aside0.mk (Kd.R_below (kr HO_476002.out) hb); have n3_ := Aside0.mk (Kd.R_below (kr HO_476003.out) hb); have n4_ := Aside0.mk (Kd.R_below (kr HO_492002.out) hb); have n5_ := Aside0.mk (Kd.R_below (kr HO_492003.out) hb); have n6_ := Aside0.mk (Kd.R_below (kr HO511.out) hb); have n7_ := Aside0.mk (Kd.R_below (kr HO516.out) hb); have n8_ := Aside0.mk (Kd.R_below (kr HO519.out) hb); have n9_ := Aside0.mk (Kd.R_below (kr HO522.out) hb); have n10_ := Aside0.mk (blk_below (bk BK475.out) hb); have n11_ := Aside0.mk (blk_below (bk BK491.out) hb); have n12_ := Aside0.mk (below_step (bl2 HB.out GE475.out GE491.out) hb); have n13_ := Aside0.mk (hbox); have n14_ := Aside0.mk ((by rw [hg]; exact (below_size (bl2 HB.out GE475.out GE491.out)) : w.heap.size ≤ gb524)); have n15_ := Aside0.mk ((by rw [hg]; exact (below_size (bl2 HB.out GE475.out GE491.out)) : w.heap.size ≤ gb524)); have n16_ := Aside0.mk ((by rw [hg]; exact Nat.ne_of_lt (blk_lt (bk BK475.out)) : gb475 ≠ gb524)); have n17_ := Aside0.mk ((by rw [hg]; exact Nat.ne_of_gt (blk_lt (bk BK475.out)) : gb524 ≠ gb475)); have n18_ := Aside0.mk ((by rw [hg]; exact Nat.ne_of_lt (blk_lt (bk BK491.out)) : gb491 ≠ gb524)); have n19_ := Aside0.mk ((by rw [hg]; exact Nat.ne_of_gt (blk_lt (bk BK491.out)) : gb524 ≠ gb491)); clear HO_9; clear HO_13; clear HO_476002; clear HO_476003; clear HO_492002; clear HO_492003; clear HO511; clear HO516; clear HO519; clear HO522; clear BK475; clear BK491; clear HB; have HO_9 := n0_; have HO_13 := n1_; have HO_476002 := n2_; have HO_476003 := n3_; have HO_492002 := n4_; have HO_492003 := n5_; have HO511 := n6_; have HO516 := n7_; have HO519 := n8_; have HO522 := n9_; have BK475 := n10_; have BK491 := n11_; have HB := n12_; have BK524 := n13_; have GW524 := n14_; have GE524 := n15_; have NB475_524 := n16_; have NB524_475 := n17_; have NB491_524 := n18_; have NB524_491 := n19_; clear n0_ n1_ n2_ n3_ n4_ n5_ n6_ n7_ n8_ n9_ n10_ n11_ n12_ n13_ n14_ n15_ n16_ n17_ n18_ n19_; clear hb hbox hg; have hnb102 := NB524_475.out; have hnc102 := NB475_524.out; have hnb103 := NB524_491.out; have hnc103 := NB491_524.out; have hcz104_0 := bc0 BK524.out; have hcz104_1 := bc1 BK524.out; have hcz104_2 := bc2 BK524.out; have hcz104_3 := bc3 BK524.out; have hfz104_0 := blk_frozen BK524.out 0; have hfz104_1 := blk_frozen BK524.out 1; have hfz104_2 := blk_frozen BK524.out 2; have hfz104_3 := blk_frozen BK524.out 3; obtain ⟨Ao105, co105, eo105⟩ := Kd.R_slice HO516.out; subst eo105; obtain ⟨Ao106, co106, eo106⟩ := Kd.R_slice HO519.out; subst eo106))
            (try simp only [Act.put, List.setIfInBounds_toArray, List.set_cons_zero, List.set_cons_succ])
            go_cut [129] (fun v129 wc => ∃ (kq : Nat) (x129_88 : Bool), v129 = .bool x129_88 ∧ Aside0 (laws_FnExactPlaySegmented.j2 kq t506 t505 x129_88 t479 t480 t503 t504 = some r) ∧ Aside0 (kq ≤ kj52) ∧ Aside0 (Kd.R Kd.string 9 wc w.heap.size (fun _ => True) (.slice Ao93 t487.length co93) t506) ∧ Aside0 (Kd.R k45 45 wc w.heap.size (fun k_ => some k_ ≠ ((.slice Ao19 t468.length co19) : Value).ownBlock ∧ some k_ ≠ ((.slice Ao26 t481.length co26) : Value).ownBlock ∧ some k_ ≠ ((.slice Ao27 t484.length co27) : Value).ownBlock ∧ some k_ ≠ ((.slice Ao105 t514.length co105) : Value).ownBlock ∧ some k_ ≠ ((.slice Ao106 t517.length co106) : Value).ownBlock) (.slice Ao18 t465.length co18) t465) ∧ Aside0 (Kd.R k45 45 wc w.heap.size (fun k_ => some k_ ≠ ((.slice Ao18 t465.length co18) : Value).ownBlock ∧ some k_ ≠ ((.slice Ao26 t481.length co26) : Value).ownBlock ∧ some k_ ≠ ((.slice Ao27 t484.length co27) : Value).ownBlock ∧ some k_ ≠ ((.slice Ao105 t514.length co105) : Value).ownBlock ∧ some k_ ≠ ((.slice Ao106 t517.length co106) : Value).ownBlock) (.slice Ao19 t468.length co19) t468) ∧ Aside0 (Kd.R k45 45 wc w.heap.size (fun k_ => some k_ ≠ ((.slice Ao18 t465.length co18) : Value).ownBlock ∧ some k_ ≠ ((.slice Ao19 t468.length co19) : Value).ownBlock ∧ some k_ ≠ ((.slice Ao27 t484.length co27) : Value).ownBlock ∧ some k_ ≠ ((.slice Ao105 t514.length co105) : Value).ownBlock ∧ some k_ ≠ ((.slice Ao106 t517.length co106) : Value).ownBlock) (.slice Ao26 t481.length co26) t503) ∧ Aside0 (Kd.R k45 45 wc w.heap.size (fun k_ => some k_ ≠ ((.slice Ao18 t465.length co18) : Value).ownBlock ∧ some k_ ≠ ((.slice Ao19 t468.length co19) : Value).ownBlock ∧ some k_ ≠ ((.slice Ao26 t481.length co26) : Value).ownBlock ∧ some k_ ≠ ((.slice Ao105 t514.length co105) : Value).ownBlock ∧ some k_ ≠ ((.slice Ao106 t517.length co106) : Value).ownBlock) (.slice Ao27 t484.length co27) t504) ∧ Aside0 (Kd.R k45 45 wc w.heap.size (fun k_ => some k_ ≠ ((.slice Ao18 t465.length co18) : Value).ownBlock ∧ some k_ ≠ ((.slice Ao19 t468.length co19) : Value).ownBlock ∧ some k_ ≠ ((.slice Ao26 t481.length co26) : Value).ownBlock ∧ some k_ ≠ ((.slice Ao27 t484.length co27) : Value).ownBlock ∧ some k_ ≠ ((.slice Ao106 t517.length co106) : Value).ownBlock) (.slice Ao105 t514.length co105) t514) ∧ Aside0 (Kd.R k45 45 wc w.heap.size (fun k_ => some k_ ≠ ((.slice Ao18 t465.length co18) : Value).ownBlock ∧ some k_ ≠ ((.slice Ao19 t468.length co19) : Value).ownBlock ∧ some k_ ≠ ((.slice Ao26 t481.length co26) : Value).ownBlock ∧ some k_ ≠ ((.slice Ao27 t484.length co27) : Value).ownBlock ∧ some k_ ≠ ((.slice Ao105 t514.length co105) : Value).ownBlock) (.slice Ao106 t517.length co106) t517) ∧ Aside0 (wc.heap[gb475]? = some (.cells #[.int .i64 t463, .int .i64 t464, (.slice Ao18 t465.length co18), (.slice Ao19 t468.length co19)] 28 (0, 0))) ∧ Aside0 (wc.heap[gb491]? = some (.cells #[.int .i64 t479, .int .i64 t480, (.slice Ao26 t481.length co26), (.slice Ao27 t484.length co27)] 28 (0, 0))) ∧ Aside0 (wc.heap[gb524]? = some (.cells #[.int .i64 t512, .int .i64 t513, (.slice Ao105 t514.length co105), (.slice Ao106 t517.length co106)] 28 (0, 0))) ∧ Aside0 (Below w.heap.size w wc))
            case first =>
             have H := HC89.out
             clear HC89
             replace H := Option.bind_eq_some_iff.mp H
             obtain ⟨t525, A1070, H⟩ := H
             try dsimp only at H
             have A107 := Aside0.mk A1070
             clear A1070
             by_cases c108 : t525 = true
             ·subst c108
              have H1 : ((laws_eqStringS.f kj52 t520 t471).bind fun t526 => (if t526 = true then (laws_FnExactPlaySegmented.j2 kj52 t506 t505 (t523 != t474) t479 t480 t503 t504) else (laws_FnExactPlaySegmented.j2 kj52 t506 t505 true t479 t480 t503 t504))) = some r := by rw [if_pos rfl] at H; exact H
              clear H
              have H := H1
              clear H1
              replace H := Option.bind_eq_some_iff.mp H
              obtain ⟨t526, A1090, H⟩ := H
              try dsimp only at H
              have A109 := Aside0.mk A1090
              clear A1090
              by_cases c110 : t526 = true
              ·subst c110
               have H1 : (laws_FnExactPlaySegmented.j2 kj52 t506 t505 (t523 != t474) t479 t480 t503 t504) = some r := by rw [if_pos rfl] at H; exact H
               clear H
               have H := H1
               clear H1
               have H' := Aside0.mk H
               clear H
               have hnb111 := NB524_475.out
               have hnc111 := NB475_524.out
               have hnb112 := NB524_491.out
               have hnc112 := NB491_524.out
               have hcz113_0 := bc0 BK524.out
               have hcz113_1 := bc1 BK524.out
               have hcz113_2 := bc2 BK524.out
               have hcz113_3 := bc3 BK524.out
               have hfz113_0 := blk_frozen BK524.out 0
               have hfz113_1 := blk_frozen BK524.out 1
               have hfz113_2 := blk_frozen BK524.out 2
               have hfz113_3 := blk_frozen BK524.out 3
               have hnb114 := NB475_491.out
               have hnc114 := NB491_475.out
               have hcz115_0 := bc0 BK475.out
               have hcz115_1 := bc1 BK475.out
               have hcz115_2 := bc2 BK475.out
               have hcz115_3 := bc3 BK475.out
               have hfz115_0 := blk_frozen BK475.out 0
               have hfz115_1 := blk_frozen BK475.out 1
               have hfz115_2 := blk_frozen BK475.out 2
               have hfz115_3 := blk_frozen BK475.out 3
               go_wp2_with (first | ((with_reducible refine gate_callee (f := 13) rfl ?_); refine goesL_ (some 117) rfl rfl Try.func13 (by kernel_rfl) rfl #[.agg #[.int .i64 t512, .int .i64 t513, .slice Ao105 t514.length co105, .slice Ao106 t517.length co106], .agg #[.int .i64 t463, .int .i64 t464, .slice Ao18 t465.length co18, .slice Ao19 t468.length co19]] rfl (by (try simp only [List.map_toArray, List.map_cons, List.map_nil]); first | done | rfl | (simp only [List.length_drop, List.length_take]; rfl)) ?_; (with_reducible refine (laws_eqSegmented.calls kj52 t512 t513 _ _ t514 _ _ t517 t463 t464 _ _ t465 _ _ t468 true _ ?side1 ?side2 ?side3 ?side4 ?side5 ?side6 ?side7 ?side8 A107.out).mono ?_); (case side1 => refine (Kd.R_reads' (e := 45) (base := w.heap.size) (ok := fun k_ => (((((some k_ ≠ (.slice Ao106 t517.length co106 : Value).ownBlock ∧ some k_ ≠ (.slice Ao18 t465.length co18 : Value).ownBlock) ∧ some k_ ≠ (.slice Ao19 t468.length co19 : Value).ownBlock) ∧ some k_ ≠ (.slice Ao26 t481.length co26 : Value).ownBlock) ∧ some k_ ≠ (.slice Ao27 t484.length co27 : Value).ownBlock) ∧ some k_ ≠ (.slice Ao99 t509.length co99 : Value).ownBlock)) (n := t514.length) (c := co105) ?_).2.2; exact (by (with_reducible repeat (first | apply Kd.R_alloc | apply Kd.R_drewN | apply Kd.R_drew)); exact (Kd.R_mono (Kd.R_far (p := ⟨gb524, 3, none⟩) (Kd.R_far (p := ⟨gb524, 2, none⟩) (Kd.R_far (p := ⟨gb524, 1, none⟩) (Kd.R_far (p := ⟨gb524, 0, none⟩) (Kd.R_types HO516.out BK524.out (by decide)) (fun _ hk => hk.2) (.int .i64 t512)) (fun _ hk => hk.2) (.int .i64 t513)) (fun _ hk => hk.2) (.slice Ao105 t514.length co105)) (fun _ hk => hk.2) (.slice Ao106 t517.length co106)) (fun _ h_ => h_.1)))); (case side2 => exact (Kd.R_reads' HO516.out).2.1); (case side3 => refine (Kd.R_reads' (e := 45) (base := w.heap.size) (ok := fun k_ => (((((some k_ ≠ (.slice Ao105 t514.length co105 : Value).ownBlock ∧ some k_ ≠ (.slice Ao18 t465.length co18 : Value).ownBlock) ∧ some k_ ≠ (.slice Ao19 t468.length co19 : Value).ownBlock) ∧ some k_ ≠ (.slice Ao26 t481.length co26 : Value).ownBlock) ∧ some k_ ≠ (.slice Ao27 t484.length co27 : Value).ownBlock) ∧ some k_ ≠ (.slice Ao99 t509.length co99 : Value).ownBlock)) (n := t517.length) (c := co106) ?_).2.2; exact (by (with_reducible repeat (first | apply Kd.R_alloc | apply Kd.R_drewN | apply Kd.R_drew)); exact (Kd.R_mono (Kd.R_far (p := ⟨gb524, 3, none⟩) (Kd.R_far (p := ⟨gb524, 2, none⟩) (Kd.R_far (p := ⟨gb524, 1, none⟩) (Kd.R_far (p := ⟨gb524, 0, none⟩) (Kd.R_types HO519.out BK524.out (by decide)) (fun _ hk => hk.2) (.int .i64 t512)) (fun _ hk => hk.2) (.int .i64 t513)) (fun _ hk => hk.2) (.slice Ao105 t514.length co105)) (fun _ hk => hk.2) (.slice Ao106 t517.length co106)) (fun _ h_ => h_.1)))); (case side4 => exact (Kd.R_reads' HO519.out).2.1); (case side5 => refine (Kd.R_reads' (e := 45) (base := w.heap.size) (ok := fun k_ => ((((some k_ ≠ (.slice Ao19 t468.length co19 : Value).ownBlock ∧ (some k_ ≠ (.slice Ao26 t481.length co26 : Value).ownBlock ∧ some k_ ≠ (.slice Ao27 t484.length co27 : Value).ownBlock)) ∧ some k_ ≠ (.slice Ao99 t509.length co99 : Value).ownBlock) ∧ some k_ ≠ (.slice Ao105 t514.length co105 : Value).ownBlock) ∧ some k_ ≠ (.slice Ao106 t517.length co106 : Value).ownBlock)) (n := t465.length) (c := co18) ?_).2.2; exact (by (with_reducible repeat (first | apply Kd.R_alloc | apply Kd.R_drewN | apply Kd.R_drew)); exact (Kd.R_mono (Kd.R_far (p := ⟨gb524, 3, none⟩) (Kd.R_far (p := ⟨gb524, 2, none⟩) (Kd.R_far (p := ⟨gb524, 1, none⟩) (Kd.R_far (p := ⟨gb524, 0, none⟩) (Kd.R_types HO_476002.out BK524.out (by decide)) (fun _ hk => hk.2) (.int .i64 t512)) (fun _ hk => hk.2) (.int .i64 t513)) (fun _ hk => hk.2) (.slice Ao105 t514.length co105)) (fun _ hk => hk.2) (.slice Ao106 t517.length co106)) (fun _ h_ => h_.1)))); (case side6 => exact (Kd.R_reads' HO_476002.out).2.1); (case side7 => refine (Kd.R_reads' (e := 45) (base := w.heap.size) (ok := fun k_ => ((((some k_ ≠ (.slice Ao18 t465.length co18 : Value).ownBlock ∧ (some k_ ≠ (.slice Ao26 t481.length co26 : Value).ownBlock ∧ some k_ ≠ (.slice Ao27 t484.length co27 : Value).ownBlock)) ∧ some k_ ≠ (.slice Ao99 t509.length co99 : Value).ownBlock) ∧ some k_ ≠ (.slice Ao105 t514.length co105 : Value).ownBlock) ∧ some k_ ≠ (.slice Ao106 t517.length co106 : Value).ownBlock)) (n := t468.length) (c := co19) ?_).2.2; exact (by (with_reducible repeat (first | apply Kd.R_alloc | apply Kd.R_drewN | apply Kd.R_drew)); exact (Kd.R_mono (Kd.R_far (p := ⟨gb524, 3, none⟩) (Kd.R_far (p := ⟨gb524, 2, none⟩) (Kd.R_far (p := ⟨gb524, 1, none⟩) (Kd.R_far (p := ⟨gb524, 0, none⟩) (Kd.R_types HO_476003.out BK524.out (by decide)) (fun _ hk => hk.2) (.int .i64 t512)) (fun _ hk => hk.2) (.int .i64 t513)) (fun _ hk => hk.2) (.slice Ao105 t514.length co105)) (fun _ hk => hk.2) (.slice Ao106 t517.length co106)) (fun _ h_ => h_.1)))); (case side8 => exact (Kd.R_reads' HO_476003.out).2.1); rintro e w116 ⟨rfl, hb⟩; refine ⟨_, rfl, ?_⟩; have n0_ := Aside0.mk (Kd.R_below (by (with_reducible repeat (first | apply Kd.R_alloc | apply Kd.R_drewN | apply Kd.R_drew)); exact (Kd.R_mono (Kd.R_far (p := ⟨gb524, 3, none⟩) (Kd.R_far (p := ⟨gb524, 2, none⟩) (Kd.R_far (p := ⟨gb524, 1, none⟩) (Kd.R_far (p := ⟨gb524, 0, none⟩) (Kd.R_types HO_9.out BK524.out (by decide)) (fun _ hk => hk.2) (.int .i64 t512)) (fun _ hk => hk.2) (.int .i64 t513)) (fun _ hk => hk.2) (.slice Ao105 t514.length co105)) (fun _ hk => hk.2) (.slice Ao106 t517.length co106)) (fun _ h_ => h_.1))) hb); have n1_ := Aside0.mk (Kd.R_below (by (with_reducible repeat (first | apply Kd.R_alloc | apply Kd.R_drewN | apply Kd.R_drew)); exact (Kd.R_mono (Kd.R_far (p := ⟨gb524, 3, none⟩) (Kd.R_far (p := ⟨gb524, 2, none⟩) (Kd.R_far (p := ⟨gb524, 1, none⟩) (Kd.R_far (p := ⟨gb524, 0, none⟩) (Kd.R_types HO_13.out BK524.out (by decide)) (fun _ hk => hk.2) (.int .i64 t512)) (fun _ hk => hk.2) (.int .i64 t513)) (fun _ hk => hk.2) (.slice Ao105 t514.length co105)) (fun _ hk => hk.2) (.slice Ao106 t517.length co106)) (fun _ h_ => h_.1))) hb); have n2_ := Aside0.mk (Kd.R_below (by (with_reducible repeat (first | apply Kd.R_alloc | apply Kd.R_drewN | apply Kd.R_drew)); exact (Kd.R_mono (Kd.R_far (p := ⟨gb524, 3, none⟩) (Kd.R_far (p := ⟨gb524, 2, none⟩) (Kd.R_far (p := ⟨gb524, 1, none⟩) (Kd.R_far (p := ⟨gb524, 0, none⟩) (Kd.R_types HO_476002.out BK524.out (by decide)) (fun _ hk => hk.2) (.int .i64 t512)) (fun _ hk => hk.2) (.int .i64 t513)) (fun _ hk => hk.2) (.slice Ao105 t514.length co105)) (fun _ hk => hk.2) (.slice Ao106 t517.length co106)) (fun _ h_ => h_.1))) hb); have n3_ := Aside0.mk (Kd.R_below (by (with_reducible repeat (first | apply Kd.R_alloc | apply Kd.R_drewN | apply Kd.R_drew)); exact (Kd.R_mono (Kd.R_far (p := ⟨gb524, 3, none⟩) (Kd.R_far (p := ⟨gb524, 2, none⟩) (Kd.R_far (p := ⟨gb524, 1, none⟩) (Kd.R_far (p := ⟨gb524, 0, none⟩) (Kd.R_types HO_476003.out BK524.out (by decide)) (fun _ hk => hk.2) (.int .i64 t512)) (fun _ hk => hk.2) (.int .i64 t513)) (fun _ hk => hk.2) (.slice Ao105 t514.length co105)) (fun _ hk => hk.2) (.slice Ao106 t517.length co106)) (fun _ h_ => h_.1))) hb); have n4_ := Aside0.mk (Kd.R_below (by (with_reducible repeat (first | apply Kd.R_alloc | apply Kd.R_drewN | apply Kd.R_drew)); exact (Kd.R_mono (Kd.R_far (p := ⟨gb524, 3, none⟩) (Kd.R_far (p := ⟨gb524, 2, none⟩) (Kd.R_far (p := ⟨gb524, 1, none⟩) (Kd.R_far (p := ⟨gb524, 0, none⟩) (Kd.R_types HO_492002.out BK524.out (by decide)) (fun _ hk => hk.2) (.int .i64 t512)) (fun _ hk => hk.2) (.int .i64 t513)) (fun _ hk => hk.2) (.slice Ao105 t514.length co105)) (fun _ hk => hk.2) (.slice Ao106 t517.length co106)) (fun _ h_ => h_.1))) hb); have n5_ := Aside0.mk (Kd.R_below (by (with_reducible repeat (first | apply Kd.R_alloc | apply Kd.R_drewN | apply Kd.R_drew)); exact (Kd.R_mono (Kd.R_far (p := ⟨gb524, 3, none⟩) (Kd.R_far (p := ⟨gb524, 2, none⟩) (Kd.R_far (p := ⟨gb524, 1, none⟩) (Kd.R_far (p := ⟨gb524, 0, none⟩) (Kd.R_types HO_492003.out BK524.out (by decide)) (fun _ hk => hk.2) (.int .i64 t512)) (fun _ hk => hk.2) (.int .i64 t513)) (fun _ hk => hk.2) (.slice Ao105 t514.length co105)) (fun _ hk => hk.2) (.slice Ao106 t517.length co106)) (fun _ h_ => h_.1))) hb); have n6_ := Aside0.mk (Kd.R_below (by (with_reducible repeat (first | apply Kd.R_alloc | apply Kd.R_drewN | apply Kd.R_drew)); exact (Kd.R_mono (Kd.R_far (p := ⟨gb524, 3, none⟩) (Kd.R_far (p := ⟨gb524, 2, none⟩) (Kd.R_far (p := ⟨gb524, 1, none⟩) (Kd.R_far (p := ⟨gb524, 0, none⟩) (Kd.R_types HO511.out BK524.out (by decide)) (fun _ hk => hk.2) (.int .i64 t512)) (fun _ hk => hk.2) (.int .i64 t513)) (fun _ hk => hk.2) (.slice Ao105 t514.length co105)) (fun _ hk => hk.2) (.slice Ao106 t517.length co106)) (fun _ h_ => h_.1))) hb); have n7_ := Aside0.mk (Kd.R_below (by (with_reducible repeat (first | apply Kd.R_alloc | apply Kd.R_drewN | apply Kd.R_drew)); exact (Kd.R_mono (Kd.R_far (p := ⟨gb524, 3, none⟩) (Kd.R_far (p := ⟨gb524, 2, none⟩) (Kd.R_far (p := ⟨gb524, 1, none⟩) (Kd.R_far (p := ⟨gb524, 0, none⟩) (Kd.R_types HO516.out BK524.out (by decide)) (fun _ hk => hk.2) (.int .i64 t512)) (fun _ hk => hk.2) (.int .i64 t513)) (fun _ hk => hk.2) (.slice Ao105 t514.length co105)) (fun _ hk => hk.2) (.slice Ao106 t517.length co106)) (fun _ h_ => h_.1))) hb); have n8_ := Aside0.mk (Kd.R_below (by (with_reducible repeat (first | apply Kd.R_alloc | apply Kd.R_drewN | apply Kd.R_drew)); exact (Kd.R_mono (Kd.R_far (p := ⟨gb524, 3, none⟩) (Kd.R_far (p := ⟨gb524, 2, none⟩) (Kd.R_far (p := ⟨gb524, 1, none⟩) (Kd.R_far (p := ⟨gb524, 0, none⟩) (Kd.R_types HO519.out BK524.out (by decide)) (fun _ hk => hk.2) (.int .i64 t512)) (fun _ hk => hk.2) (.int .i64 t513)) (fun _ hk => hk.2) (.slice Ao105 t514.length co105)) (fun _ hk => hk.2) (.slice Ao106 t517.length co106)) (fun _ h_ => h_.1))) hb); have n9_ := Aside0.mk (Kd.R_below (by (with_reducible repeat (first | apply Kd.R_alloc | apply Kd.R_drewN | apply Kd.R_drew)); exact (Kd.R_mono (Kd.R_far (p := ⟨gb524, 3, none⟩) (Kd.R_far (p := ⟨gb524, 2, none⟩) (Kd.R_far (p := ⟨gb524, 1, none⟩) (Kd.R_far (p := ⟨gb524, 0, none⟩) (Kd.R_types HO522.out BK524.out (by decide)) (fun _ hk => hk.2) (.int .i64 t512)) (fun _ hk => hk.2) (.int .i64 t513)) (fun _ hk => hk.2) (.slice Ao105 t514.length co105)) (fun _ hk => hk.2) (.slice Ao106 t517.length co106)) (fun _ h_ => h_.1))) hb); have n10_ := Aside0.mk (blk_below (g := gb475) (o := .cells #[.int .i64 t463, .int .i64 t464, .slice Ao18 t465.length co18, .slice Ao19 t468.length co19] 28 (0, 0)) (by (with_reducible repeat (first | refine blk_drewN ?_ _ | refine blk_drew ?_ | refine blk_alloc ?_ _)); refine blk_far ?_ NB475_524.out _; (with_reducible repeat (first | refine blk_drewN ?_ _ | refine blk_drew ?_ | refine blk_alloc ?_ _)); refine blk_far ?_ NB475_524.out _; (with_reducible repeat (first | refine blk_drewN ?_ _ | refine blk_drew ?_ | refine blk_alloc ?_ _)); refine blk_far ?_ NB475_524.out _; (with_reducible repeat (first | refine blk_drewN ?_ _ | refine blk_drew ?_ | refine blk_alloc ?_ _)); refine blk_far ?_ NB475_524.out _; exact bk BK475.out) hb); have n11_ := Aside0.mk (blk_below (g := gb491) (o := .cells #[.int .i64 t479, .int .i64 t480, .slice Ao26 t481.length co26, .slice Ao27 t484.length co27] 28 (0, 0)) (by (with_reducible repeat (first | refine blk_drewN ?_ _ | refine blk_drew ?_ | refine blk_alloc ?_ _)); refine blk_far ?_ NB491_524.out _; (with_reducible repeat (first | refine blk_drewN ?_ _ | refine blk_drew ?_ | refine blk_alloc ?_ _)); refine blk_far ?_ NB491_524.out _; (with_reducible repeat (first | refine blk_drewN ?_ _ | refine blk_drew ?_ | refine blk_alloc ?_ _)); refine blk_far ?_ NB491_524.out _; (with_reducible repeat (first | refine blk_drewN ?_ _ | refine blk_drew ?_ | refine blk_alloc ?_ _)); refine blk_far ?_ NB491_524.out _; exact bk BK491.out) hb); have n12_ := Aside0.mk (blk_below (g := gb524) (o := .cells #[.int .i64 t512, .int .i64 t513, .slice Ao105 t514.length co105, .slice Ao106 t517.length co106] 28 (0, 0)) (by (with_reducible repeat (first | refine blk_drewN ?_ _ | refine blk_drew ?_ | refine blk_alloc ?_ _)); refine blk_put (cs := #[.int .i64 t512, .int .i64 t513, .slice Ao105 t514.length co105, .slice none 0 0]) ?_ 3 _ rfl; (with_reducible repeat (first | refine blk_drewN ?_ _ | refine blk_drew ?_ | refine blk_alloc ?_ _)); refine blk_put (cs := #[.int .i64 t512, .int .i64 t513, .slice none 0 0, .slice none 0 0]) ?_ 2 _ rfl; (with_reducible repeat (first | refine blk_drewN ?_ _ | refine blk_drew ?_ | refine blk_alloc ?_ _)); refine blk_put (cs := #[.int .i64 t512, .int .i64 0, .slice none 0 0, .slice none 0 0]) ?_ 1 _ rfl; (with_reducible repeat (first | refine blk_drewN ?_ _ | refine blk_drew ?_ | refine blk_alloc ?_ _)); refine blk_put (cs := #[.int .i64 0, .int .i64 0, .slice none 0 0, .slice none 0 0]) ?_ 0 _ rfl; exact bk BK524.out) hb); have n13_ := Aside0.mk (below_step (bl3 HB.out GE475.out GE491.out GE524.out) hb); clear HO_9; clear HO_13; clear HO_476002; clear HO_476003; clear HO_492002; clear HO_492003; clear HO511; clear HO516; clear HO519; clear HO522; clear BK475; clear BK491; clear BK524; clear HB; have HO_9 := n0_; have HO_13 := n1_; have HO_476002 := n2_; have HO_476003 := n3_; have HO_492002 := n4_; have HO_492003 := n5_; have HO511 := n6_; have HO516 := n7_; have HO519 := n8_; have HO522 := n9_; have BK475 := n10_; have BK491 := n11_; have BK524 := n12_; have HB := n13_; clear n0_ n1_ n2_ n3_ n4_ n5_ n6_ n7_ n8_ n9_ n10_ n11_ n12_ n13_; (try clear hb); (try clear hb2); (try clear hk); (try clear hi); obtain ⟨Ao117, co117, eo117⟩ := Kd.R_slice HO522.out; subst eo117; obtain ⟨Ao118, co118, eo118⟩ := Kd.R_slice HO_9.out; subst eo118) | (go_at_call 34; (with_reducible refine (laws_eqStringS.calls kj52 _ _ t520 _ _ t471 true _ ?side1 ?side2 ?side3 ?side4 A109.out).mono ?_); (case side1 => exact kc (Kd.R_reads' HO522.out).2.2); (case side2 => exact (Kd.R_reads' HO522.out).2.1); (case side3 => exact kc (Kd.R_reads' HO_9.out).2.2); (case side4 => exact (Kd.R_reads' HO_9.out).2.1); rintro e w' ⟨rfl, ⟨nd, rfl⟩⟩))
               go_meet
               case rel => exact ⟨_, ((t523 != t474)), (by first | rfl | (simp; done) | (simp [*]; done)), H', ⟨by have := HJ10.out; have := HJ52.out; first | omega | exact Nat.le_refl _⟩, ⟨by (with_reducible repeat (first | apply Kd.R_alloc | apply Kd.R_drewN | apply Kd.R_drew)); exact Kd.R_mono HO_13.out (fun _ hk => trivial)⟩, ⟨by (with_reducible repeat (first | apply Kd.R_alloc | apply Kd.R_drewN | apply Kd.R_drew)); exact Kd.R_mono HO_476002.out (fun _ hk => ⟨hk.1.1.1.1, ⟨hk.1.1.1.2.1, ⟨hk.1.1.1.2.2, ⟨hk.1.2, hk.2⟩⟩⟩⟩)⟩, ⟨by (with_reducible repeat (first | apply Kd.R_alloc | apply Kd.R_drewN | apply Kd.R_drew)); exact Kd.R_mono HO_476003.out (fun _ hk => ⟨hk.1.1.1.1, ⟨hk.1.1.1.2.1, ⟨hk.1.1.1.2.2, ⟨hk.1.2, hk.2⟩⟩⟩⟩)⟩, ⟨by (with_reducible repeat (first | apply Kd.R_alloc | apply Kd.R_drewN | apply Kd.R_drew)); exact Kd.R_mono HO_492002.out (fun _ hk => ⟨hk.1.1.1.1, ⟨hk.1.1.1.2.1, ⟨hk.1.1.1.2.2, ⟨hk.1.2, hk.2⟩⟩⟩⟩)⟩, ⟨by (with_reducible repeat (first | apply Kd.R_alloc | apply Kd.R_drewN | apply Kd.R_drew)); exact Kd.R_mono HO_492003.out (fun _ hk => ⟨hk.1.1.1.1, ⟨hk.1.1.1.2.1, ⟨hk.1.1.1.2.2, ⟨hk.1.2, hk.2⟩⟩⟩⟩)⟩, ⟨by (with_reducible repeat (first | apply Kd.R_alloc | apply Kd.R_drewN | apply Kd.R_drew)); exact Kd.R_mono HO516.out (fun _ hk => ⟨hk.1.1.1.1.2, ⟨hk.1.1.1.2, ⟨hk.1.1.2, ⟨hk.1.2, hk.1.1.1.1.1⟩⟩⟩⟩)⟩, ⟨by (with_reducible repeat (first | apply Kd.R_alloc | apply Kd.R_drewN | apply Kd.R_drew)); exact Kd.R_mono HO519.out (fun _ hk => ⟨hk.1.1.1.1.2, ⟨hk.1.1.1.2, ⟨hk.1.1.2, ⟨hk.1.2, hk.1.1.1.1.1⟩⟩⟩⟩)⟩, ⟨bk BK475.out⟩, ⟨bk BK491.out⟩, ⟨bk BK524.out⟩, ⟨bl3 HB.out GE475.out GE491.out GE524.out⟩⟩
              ·replace c110 := Bool.eq_false_iff.mpr c110
               subst c110
               have H1 : (laws_FnExactPlaySegmented.j2 kj52 t506 t505 true t479 t480 t503 t504) = some r := by rw [if_neg (show ¬ (false = true) by decide)] at H; exact H
               clear H
               have H := H1
               clear H1
               have H' := Aside0.mk H
               clear H
               have hnb119 := NB524_475.out
               have hnc119 := NB475_524.out
               have hnb120 := NB524_491.out
               have hnc120 := NB491_524.out
               have hcz121_0 := bc0 BK524.out
               have hcz121_1 := bc1 BK524.out
               have hcz121_2 := bc2 BK524.out
               have hcz121_3 := bc3 BK524.out
               have hfz121_0 := blk_frozen BK524.out 0
               have hfz121_1 := blk_frozen BK524.out 1
               have hfz121_2 := blk_frozen BK524.out 2
               have hfz121_3 := blk_frozen BK524.out 3
               have hnb122 := NB475_491.out
               have hnc122 := NB491_475.out
               have hcz123_0 := bc0 BK475.out
               have hcz123_1 := bc1 BK475.out
               have hcz123_2 := bc2 BK475.out
               have hcz123_3 := bc3 BK475.out
               have hfz123_0 := blk_frozen BK475.out 0
               have hfz123_1 := blk_frozen BK475.out 1
               have hfz123_2 := blk_frozen BK475.out 2
               have hfz123_3 := blk_frozen BK475.out 3
               go_wp2_with (first | ((with_reducible refine gate_callee (f := 13) rfl ?_); refine goesL_ (some 117) rfl rfl Try.func13 (by kernel_rfl) rfl #[.agg #[.int .i64 t512, .int .i64 t513, .slice Ao105 t514.length co105, .slice Ao106 t517.length co106], .agg #[.int .i64 t463, .int .i64 t464, .slice Ao18 t465.length co18, .slice Ao19 t468.length co19]] rfl (by (try simp only [List.map_toArray, List.map_cons, List.map_nil]); first | done | rfl | (simp only [List.length_drop, List.length_take]; rfl)) ?_; (with_reducible refine (laws_eqSegmented.calls kj52 t512 t513 _ _ t514 _ _ t517 t463 t464 _ _ t465 _ _ t468 true _ ?side1 ?side2 ?side3 ?side4 ?side5 ?side6 ?side7 ?side8 A107.out).mono ?_); (case side1 => refine (Kd.R_reads' (e := 45) (base := w.heap.size) (ok := fun k_ => (((((some k_ ≠ (.slice Ao106 t517.length co106 : Value).ownBlock ∧ some k_ ≠ (.slice Ao18 t465.length co18 : Value).ownBlock) ∧ some k_ ≠ (.slice Ao19 t468.length co19 : Value).ownBlock) ∧ some k_ ≠ (.slice Ao26 t481.length co26 : Value).ownBlock) ∧ some k_ ≠ (.slice Ao27 t484.length co27 : Value).ownBlock) ∧ some k_ ≠ (.slice Ao99 t509.length co99 : Value).ownBlock)) (n := t514.length) (c := co105) ?_).2.2; exact (by (with_reducible repeat (first | apply Kd.R_alloc | apply Kd.R_drewN | apply Kd.R_drew)); exact (Kd.R_mono (Kd.R_far (p := ⟨gb524, 3, none⟩) (Kd.R_far (p := ⟨gb524, 2, none⟩) (Kd.R_far (p := ⟨gb524, 1, none⟩) (Kd.R_far (p := ⟨gb524, 0, none⟩) (Kd.R_types HO516.out BK524.out (by decide)) (fun _ hk => hk.2) (.int .i64 t512)) (fun _ hk => hk.2) (.int .i64 t513)) (fun _ hk => hk.2) (.slice Ao105 t514.length co105)) (fun _ hk => hk.2) (.slice Ao106 t517.length co106)) (fun _ h_ => h_.1)))); (case side2 => exact (Kd.R_reads' HO516.out).2.1); (case side3 => refine (Kd.R_reads' (e := 45) (base := w.heap.size) (ok := fun k_ => (((((some k_ ≠ (.slice Ao105 t514.length co105 : Value).ownBlock ∧ some k_ ≠ (.slice Ao18 t465.length co18 : Value).ownBlock) ∧ some k_ ≠ (.slice Ao19 t468.length co19 : Value).ownBlock) ∧ some k_ ≠ (.slice Ao26 t481.length co26 : Value).ownBlock) ∧ some k_ ≠ (.slice Ao27 t484.length co27 : Value).ownBlock) ∧ some k_ ≠ (.slice Ao99 t509.length co99 : Value).ownBlock)) (n := t517.length) (c := co106) ?_).2.2; exact (by (with_reducible repeat (first | apply Kd.R_alloc | apply Kd.R_drewN | apply Kd.R_drew)); exact (Kd.R_mono (Kd.R_far (p := ⟨gb524, 3, none⟩) (Kd.R_far (p := ⟨gb524, 2, none⟩) (Kd.R_far (p := ⟨gb524, 1, none⟩) (Kd.R_far (p := ⟨gb524, 0, none⟩) (Kd.R_types HO519.out BK524.out (by decide)) (fun _ hk => hk.2) (.int .i64 t512)) (fun _ hk => hk.2) (.int .i64 t513)) (fun _ hk => hk.2) (.slice Ao105 t514.length co105)) (fun _ hk => hk.2) (.slice Ao106 t517.length co106)) (fun _ h_ => h_.1)))); (case side4 => exact (Kd.R_reads' HO519.out).2.1); (case side5 => refine (Kd.R_reads' (e := 45) (base := w.heap.size) (ok := fun k_ => ((((some k_ ≠ (.slice Ao19 t468.length co19 : Value).ownBlock ∧ (some k_ ≠ (.slice Ao26 t481.length co26 : Value).ownBlock ∧ some k_ ≠ (.slice Ao27 t484.length co27 : Value).ownBlock)) ∧ some k_ ≠ (.slice Ao99 t509.length co99 : Value).ownBlock) ∧ some k_ ≠ (.slice Ao105 t514.length co105 : Value).ownBlock) ∧ some k_ ≠ (.slice Ao106 t517.length co106 : Value).ownBlock)) (n := t465.length) (c := co18) ?_).2.2; exact (by (with_reducible repeat (first | apply Kd.R_alloc | apply Kd.R_drewN | apply Kd.R_drew)); exact (Kd.R_mono (Kd.R_far (p := ⟨gb524, 3, none⟩) (Kd.R_far (p := ⟨gb524, 2, none⟩) (Kd.R_far (p := ⟨gb524, 1, none⟩) (Kd.R_far (p := ⟨gb524, 0, none⟩) (Kd.R_types HO_476002.out BK524.out (by decide)) (fun _ hk => hk.2) (.int .i64 t512)) (fun _ hk => hk.2) (.int .i64 t513)) (fun _ hk => hk.2) (.slice Ao105 t514.length co105)) (fun _ hk => hk.2) (.slice Ao106 t517.length co106)) (fun _ h_ => h_.1)))); (case side6 => exact (Kd.R_reads' HO_476002.out).2.1); (case side7 => refine (Kd.R_reads' (e := 45) (base := w.heap.size) (ok := fun k_ => ((((some k_ ≠ (.slice Ao18 t465.length co18 : Value).ownBlock ∧ (some k_ ≠ (.slice Ao26 t481.length co26 : Value).ownBlock ∧ some k_ ≠ (.slice Ao27 t484.length co27 : Value).ownBlock)) ∧ some k_ ≠ (.slice Ao99 t509.length co99 : Value).ownBlock) ∧ some k_ ≠ (.slice Ao105 t514.length co105 : Value).ownBlock) ∧ some k_ ≠ (.slice Ao106 t517.length co106 : Value).ownBlock)) (n := t468.length) (c := co19) ?_).2.2; exact (by (with_reducible repeat (first | apply Kd.R_alloc | apply Kd.R_drewN | apply Kd.R_drew)); exact (Kd.R_mono (Kd.R_far (p := ⟨gb524, 3, none⟩) (Kd.R_far (p := ⟨gb524, 2, none⟩) (Kd.R_far (p := ⟨gb524, 1, none⟩) (Kd.R_far (p := ⟨gb524, 0, none⟩) (Kd.R_types HO_476003.out BK524.out (by decide)) (fun _ hk => hk.2) (.int .i64 t512)) (fun _ hk => hk.2) (.int .i64 t513)) (fun _ hk => hk.2) (.slice Ao105 t514.length co105)) (fun _ hk => hk.2) (.slice Ao106 t517.length co106)) (fun _ h_ => h_.1)))); (case side8 => exact (Kd.R_reads' HO_476003.out).2.1); rintro e w124 ⟨rfl, hb⟩; refine ⟨_, rfl, ?_⟩; have n0_ := Aside0.mk (Kd.R_below (by (with_reducible repeat (first | apply Kd.R_alloc | apply Kd.R_drewN | apply Kd.R_drew)); exact (Kd.R_mono (Kd.R_far (p := ⟨gb524, 3, none⟩) (Kd.R_far (p := ⟨gb524, 2, none⟩) (Kd.R_far (p := ⟨gb524, 1, none⟩) (Kd.R_far (p := ⟨gb524, 0, none⟩) (Kd.R_types HO_9.out BK524.out (by decide)) (fun _ hk => hk.2) (.int .i64 t512)) (fun _ hk => hk.2) (.int .i64 t513)) (fun _ hk => hk.2) (.slice Ao105 t514.length co105)) (fun _ hk => hk.2) (.slice Ao106 t517.length co106)) (fun _ h_ => h_.1))) hb); have n1_ := Aside0.mk (Kd.R_below (by (with_reducible repeat (first | apply Kd.R_alloc | apply Kd.R_drewN | apply Kd.R_drew)); exact (Kd.R_mono (Kd.R_far (p := ⟨gb524, 3, none⟩) (Kd.R_far (p := ⟨gb524, 2, none⟩) (Kd.R_far (p := ⟨gb524, 1, none⟩) (Kd.R_far (p := ⟨gb524, 0, none⟩) (Kd.R_types HO_13.out BK524.out (by decide)) (fun _ hk => hk.2) (.int .i64 t512)) (fun _ hk => hk.2) (.int .i64 t513)) (fun _ hk => hk.2) (.slice Ao105 t514.length co105)) (fun _ hk => hk.2) (.slice Ao106 t517.length co106)) (fun _ h_ => h_.1))) hb); have n2_ := Aside0.mk (Kd.R_below (by (with_reducible repeat (first | apply Kd.R_alloc | apply Kd.R_drewN | apply Kd.R_drew)); exact (Kd.R_mono (Kd.R_far (p := ⟨gb524, 3, none⟩) (Kd.R_far (p := ⟨gb524, 2, none⟩) (Kd.R_far (p := ⟨gb524, 1, none⟩) (Kd.R_far (p := ⟨gb524, 0, none⟩) (Kd.R_types HO_476002.out BK524.out (by decide)) (fun _ hk => hk.2) (.int .i64 t512)) (fun _ hk => hk.2) (.int .i64 t513)) (fun _ hk => hk.2) (.slice Ao105 t514.length co105)) (fun _ hk => hk.2) (.slice Ao106 t517.length co106)) (fun _ h_ => h_.1))) hb); have n3_ := Aside0.mk (Kd.R_below (by (with_reducible repeat (first | apply Kd.R_alloc | apply Kd.R_drewN | apply Kd.R_drew)); exact (Kd.R_mono (Kd.R_far (p := ⟨gb524, 3, none⟩) (Kd.R_far (p := ⟨gb524, 2, none⟩) (Kd.R_far (p := ⟨gb524, 1, none⟩) (Kd.R_far (p := ⟨gb524, 0, none⟩) (Kd.R_types HO_476003.out BK524.out (by decide)) (fun _ hk => hk.2) (.int .i64 t512)) (fun _ hk => hk.2) (.int .i64 t513)) (fun _ hk => hk.2) (.slice Ao105 t514.length co105)) (fun _ hk => hk.2) (.slice Ao106 t517.length co106)) (fun _ h_ => h_.1))) hb); have n4_ := Aside0.mk (Kd.R_below (by (with_reducible repeat (first | apply Kd.R_alloc | apply Kd.R_drewN | apply Kd.R_drew)); exact (Kd.R_mono (Kd.R_far (p := ⟨gb524, 3, none⟩) (Kd.R_far (p := ⟨gb524, 2, none⟩) (Kd.R_far (p := ⟨gb524, 1, none⟩) (Kd.R_far (p := ⟨gb524, 0, none⟩) (Kd.R_types HO_492002.out BK524.out (by decide)) (fun _ hk => hk.2) (.int .i64 t512)) (fun _ hk => hk.2) (.int .i64 t513)) (fun _ hk => hk.2) (.slice Ao105 t514.length co105)) (fun _ hk => hk.2) (.slice Ao106 t517.length co106)) (fun _ h_ => h_.1))) hb); have n5_ := Aside0.mk (Kd.R_below (by (with_reducible repeat (first | apply Kd.R_alloc | apply Kd.R_drewN | apply Kd.R_drew)); exact (Kd.R_mono (Kd.R_far (p := ⟨gb524, 3, none⟩) (Kd.R_far (p := ⟨gb524, 2, none⟩) (Kd.R_far (p := ⟨gb524, 1, none⟩) (Kd.R_far (p := ⟨gb524, 0, none⟩) (Kd.R_types HO_492003.out BK524.out (by decide)) (fun _ hk => hk.2) (.int .i64 t512)) (fun _ hk => hk.2) (.int .i64 t513)) (fun _ hk => hk.2) (.slice Ao105 t514.length co105)) (fun _ hk => hk.2) (.slice Ao106 t517.length co106)) (fun _ h_ => h_.1))) hb); have n6_ := Aside0.mk (Kd.R_below (by (with_reducible repeat (first | apply Kd.R_alloc | apply Kd.R_drewN | apply Kd.R_drew)); exact (Kd.R_mono (Kd.R_far (p := ⟨gb524, 3, none⟩) (Kd.R_far (p := ⟨gb524, 2, none⟩) (Kd.R_far (p := ⟨gb524, 1, none⟩) (Kd.R_far (p := ⟨gb524, 0, none⟩) (Kd.R_types HO511.out BK524.out (by decide)) (fun _ hk => hk.2) (.int .i64 t512)) (fun _ hk => hk.2) (.int .i64 t513)) (fun _ hk => hk.2) (.slice Ao105 t514.length co105)) (fun _ hk => hk.2) (.slice Ao106 t517.length co106)) (fun _ h_ => h_.1))) hb); have n7_ := Aside0.mk (Kd.R_below (by (with_reducible repeat (first | apply Kd.R_alloc | apply Kd.R_drewN | apply Kd.R_drew)); exact (Kd.R_mono (Kd.R_far (p := ⟨gb524, 3, none⟩) (Kd.R_far (p := ⟨gb524, 2, none⟩) (Kd.R_far (p := ⟨gb524, 1, none⟩) (Kd.R_far (p := ⟨gb524, 0, none⟩) (Kd.R_types HO516.out BK524.out (by decide)) (fun _ hk => hk.2) (.int .i64 t512)) (fun _ hk => hk.2) (.int .i64 t513)) (fun _ hk => hk.2) (.slice Ao105 t514.length co105)) (fun _ hk => hk.2) (.slice Ao106 t517.length co106)) (fun _ h_ => h_.1))) hb); have n8_ := Aside0.mk (Kd.R_below (by (with_reducible repeat (first | apply Kd.R_alloc | apply Kd.R_drewN | apply Kd.R_drew)); exact (Kd.R_mono (Kd.R_far (p := ⟨gb524, 3, none⟩) (Kd.R_far (p := ⟨gb524, 2, none⟩) (Kd.R_far (p := ⟨gb524, 1, none⟩) (Kd.R_far (p := ⟨gb524, 0, none⟩) (Kd.R_types HO519.out BK524.out (by decide)) (fun _ hk => hk.2) (.int .i64 t512)) (fun _ hk => hk.2) (.int .i64 t513)) (fun _ hk => hk.2) (.slice Ao105 t514.length co105)) (fun _ hk => hk.2) (.slice Ao106 t517.length co106)) (fun _ h_ => h_.1))) hb); have n9_ := Aside0.mk (Kd.R_below (by (with_reducible repeat (first | apply Kd.R_alloc | apply Kd.R_drewN | apply Kd.R_drew)); exact (Kd.R_mono (Kd.R_far (p := ⟨gb524, 3, none⟩) (Kd.R_far (p := ⟨gb524, 2, none⟩) (Kd.R_far (p := ⟨gb524, 1, none⟩) (Kd.R_far (p := ⟨gb524, 0, none⟩) (Kd.R_types HO522.out BK524.out (by decide)) (fun _ hk => hk.2) (.int .i64 t512)) (fun _ hk => hk.2) (.int .i64 t513)) (fun _ hk => hk.2) (.slice Ao105 t514.length co105)) (fun _ hk => hk.2) (.slice Ao106 t517.length co106)) (fun _ h_ => h_.1))) hb); have n10_ := Aside0.mk (blk_below (g := gb475) (o := .cells #[.int .i64 t463, .int .i64 t464, .slice Ao18 t465.length co18, .slice Ao19 t468.length co19] 28 (0, 0)) (by (with_reducible repeat (first | refine blk_drewN ?_ _ | refine blk_drew ?_ | refine blk_alloc ?_ _)); refine blk_far ?_ NB475_524.out _; (with_reducible repeat (first | refine blk_drewN ?_ _ | refine blk_drew ?_ | refine blk_alloc ?_ _)); refine blk_far ?_ NB475_524.out _; (with_reducible repeat (first | refine blk_drewN ?_ _ | refine blk_drew ?_ | refine blk_alloc ?_ _)); refine blk_far ?_ NB475_524.out _; (with_reducible repeat (first | refine blk_drewN ?_ _ | refine blk_drew ?_ | refine blk_alloc ?_ _)); refine blk_far ?_ NB475_524.out _; exact bk BK475.out) hb); have n11_ := Aside0.mk (blk_below (g := gb491) (o := .cells #[.int .i64 t479, .int .i64 t480, .slice Ao26 t481.length co26, .slice Ao27 t484.length co27] 28 (0, 0)) (by (with_reducible repeat (first | refine blk_drewN ?_ _ | refine blk_drew ?_ | refine blk_alloc ?_ _)); refine blk_far ?_ NB491_524.out _; (with_reducible repeat (first | refine blk_drewN ?_ _ | refine blk_drew ?_ | refine blk_alloc ?_ _)); refine blk_far ?_ NB491_524.out _; (with_reducible repeat (first | refine blk_drewN ?_ _ | refine blk_drew ?_ | refine blk_alloc ?_ _)); refine blk_far ?_ NB491_524.out _; (with_reducible repeat (first | refine blk_drewN ?_ _ | refine blk_drew ?_ | refine blk_alloc ?_ _)); refine blk_far ?_ NB491_524.out _; exact bk BK491.out) hb); have n12_ := Aside0.mk (blk_below (g := gb524) (o := .cells #[.int .i64 t512, .int .i64 t513, .slice Ao105 t514.length co105, .slice Ao106 t517.length co106] 28 (0, 0)) (by (with_reducible repeat (first | refine blk_drewN ?_ _ | refine blk_drew ?_ | refine blk_alloc ?_ _)); refine blk_put (cs := #[.int .i64 t512, .int .i64 t513, .slice Ao105 t514.length co105, .slice none 0 0]) ?_ 3 _ rfl; (with_reducible repeat (first | refine blk_drewN ?_ _ | refine blk_drew ?_ | refine blk_alloc ?_ _)); refine blk_put (cs := #[.int .i64 t512, .int .i64 t513, .slice none 0 0, .slice none 0 0]) ?_ 2 _ rfl; (with_reducible repeat (first | refine blk_drewN ?_ _ | refine blk_drew ?_ | refine blk_alloc ?_ _)); refine blk_put (cs := #[.int .i64 t512, .int .i64 0, .slice none 0 0, .slice none 0 0]) ?_ 1 _ rfl; (with_reducible repeat (first | refine blk_drewN ?_ _ | refine blk_drew ?_ | refine blk_alloc ?_ _)); refine blk_put (cs := #[.int .i64 0, .int .i64 0, .slice none 0 0, .slice none 0 0]) ?_ 0 _ rfl; exact bk BK524.out) hb); have n13_ := Aside0.mk (below_step (bl3 HB.out GE475.out GE491.out GE524.out) hb); clear HO_9; clear HO_13; clear HO_476002; clear HO_476003; clear HO_492002; clear HO_492003; clear HO511; clear HO516; clear HO519; clear HO522; clear BK475; clear BK491; clear BK524; clear HB; have HO_9 := n0_; have HO_13 := n1_; have HO_476002 := n2_; have HO_476003 := n3_; have HO_492002 := n4_; have HO_492003 := n5_; have HO511 := n6_; have HO516 := n7_; have HO519 := n8_; have HO522 := n9_; have BK475 := n10_; have BK491 := n11_; have BK524 := n12_; have HB := n13_; clear n0_ n1_ n2_ n3_ n4_ n5_ n6_ n7_ n8_ n9_ n10_ n11_ n12_ n13_; (try clear hb); (try clear hb2); (try clear hk); (try clear hi); obtain ⟨Ao125, co125, eo125⟩ := Kd.R_slice HO522.out; subst eo125; obtain ⟨Ao126, co126, eo126⟩ := Kd.R_slice HO_9.out; subst eo126) | (go_at_call 34; (with_reducible refine (laws_eqStringS.calls kj52 _ _ t520 _ _ t471 false _ ?side1 ?side2 ?side3 ?side4 A109.out).mono ?_); (case side1 => exact kc (Kd.R_reads' HO522.out).2.2); (case side2 => exact (Kd.R_reads' HO522.out).2.1); (case side3 => exact kc (Kd.R_reads' HO_9.out).2.2); (case side4 => exact (Kd.R_reads' HO_9.out).2.1); rintro e w' ⟨rfl, ⟨nd, rfl⟩⟩))
               go_meet
               case rel => exact ⟨_, (true), (by first | rfl | (simp; done) | (simp [*]; done)), H', ⟨by have := HJ10.out; have := HJ52.out; first | omega | exact Nat.le_refl _⟩, ⟨by (with_reducible repeat (first | apply Kd.R_alloc | apply Kd.R_drewN | apply Kd.R_drew)); exact Kd.R_mono HO_13.out (fun _ hk => trivial)⟩, ⟨by (with_reducible repeat (first | apply Kd.R_alloc | apply Kd.R_drewN | apply Kd.R_drew)); exact Kd.R_mono HO_476002.out (fun _ hk => ⟨hk.1.1.1.1, ⟨hk.1.1.1.2.1, ⟨hk.1.1.1.2.2, ⟨hk.1.2, hk.2⟩⟩⟩⟩)⟩, ⟨by (with_reducible repeat (first | apply Kd.R_alloc | apply Kd.R_drewN | apply Kd.R_drew)); exact Kd.R_mono HO_476003.out (fun _ hk => ⟨hk.1.1.1.1, ⟨hk.1.1.1.2.1, ⟨hk.1.1.1.2.2, ⟨hk.1.2, hk.2⟩⟩⟩⟩)⟩, ⟨by (with_reducible repeat (first | apply Kd.R_alloc | apply Kd.R_drewN | apply Kd.R_drew)); exact Kd.R_mono HO_492002.out (fun _ hk => ⟨hk.1.1.1.1, ⟨hk.1.1.1.2.1, ⟨hk.1.1.1.2.2, ⟨hk.1.2, hk.2⟩⟩⟩⟩)⟩, ⟨by (with_reducible repeat (first | apply Kd.R_alloc | apply Kd.R_drewN | apply Kd.R_drew)); exact Kd.R_mono HO_492003.out (fun _ hk => ⟨hk.1.1.1.1, ⟨hk.1.1.1.2.1, ⟨hk.1.1.1.2.2, ⟨hk.1.2, hk.2⟩⟩⟩⟩)⟩, ⟨by (with_reducible repeat (first | apply Kd.R_alloc | apply Kd.R_drewN | apply Kd.R_drew)); exact Kd.R_mono HO516.out (fun _ hk => ⟨hk.1.1.1.1.2, ⟨hk.1.1.1.2, ⟨hk.1.1.2, ⟨hk.1.2, hk.1.1.1.1.1⟩⟩⟩⟩)⟩, ⟨by (with_reducible repeat (first | apply Kd.R_alloc | apply Kd.R_drewN | apply Kd.R_drew)); exact Kd.R_mono HO519.out (fun _ hk => ⟨hk.1.1.1.1.2, ⟨hk.1.1.1.2, ⟨hk.1.1.2, ⟨hk.1.2, hk.1.1.1.1.1⟩⟩⟩⟩)⟩, ⟨bk BK475.out⟩, ⟨bk BK491.out⟩, ⟨bk BK524.out⟩, ⟨bl3 HB.out GE475.out GE491.out GE524.out⟩⟩
             ·replace c108 := Bool.eq_false_iff.mpr c108
              subst c108
              have H1 : (laws_FnExactPlaySegmented.j2 kj52 t506 t505 true t479 t480 t503 t504) = some r := by rw [if_neg (show ¬ (false = true) by decide)] at H; exact H
              clear H
              have H := H1
              clear H1
              have H' := Aside0.mk H
              clear H
              have hnb127 := NB524_475.out
              have hnc127 := NB475_524.out
              have hnb128 := NB524_491.out
              have hnc128 := NB491_524.out
              have hcz129_0 := bc0 BK524.out
              have hcz129_1 := bc1 BK524.out
              have hcz129_2 := bc2 BK524.out
              have hcz129_3 := bc3 BK524.out
              have hfz129_0 := blk_frozen BK524.out 0
              have hfz129_1 := blk_frozen BK524.out 1
              have hfz129_2 := blk_frozen BK524.out 2
              have hfz129_3 := blk_frozen BK524.out 3
              have hnb130 := NB475_491.out
              have hnc130 := NB491_475.out
              have hcz131_0 := bc0 BK475.out
              have hcz131_1 := bc1 BK475.out
              have hcz131_2 := bc2 BK475.out
              have hcz131_3 := bc3 BK475.out
              have hfz131_0 := blk_frozen BK475.out 0
              have hfz131_1 := blk_frozen BK475.out 1
              have hfz131_2 := blk_frozen BK475.out 2
              have hfz131_3 := blk_frozen BK475.out 3
              go_wp2_with (first | ((with_reducible refine gate_callee (f := 13) rfl ?_); refine goesL_ (some 117) rfl rfl Try.func13 (by kernel_rfl) rfl #[.agg #[.int .i64 t512, .int .i64 t513, .slice Ao105 t514.length co105, .slice Ao106 t517.length co106], .agg #[.int .i64 t463, .int .i64 t464, .slice Ao18 t465.length co18, .slice Ao19 t468.length co19]] rfl (by (try simp only [List.map_toArray, List.map_cons, List.map_nil]); first | done | rfl | (simp only [List.length_drop, List.length_take]; rfl)) ?_; (with_reducible refine (laws_eqSegmented.calls kj52 t512 t513 _ _ t514 _ _ t517 t463 t464 _ _ t465 _ _ t468 false _ ?side1 ?side2 ?side3 ?side4 ?side5 ?side6 ?side7 ?side8 A107.out).mono ?_); (case side1 => refine (Kd.R_reads' (e := 45) (base := w.heap.size) (ok := fun k_ => (((((some k_ ≠ (.slice Ao106 t517.length co106 : Value).ownBlock ∧ some k_ ≠ (.slice Ao18 t465.length co18 : Value).ownBlock) ∧ some k_ ≠ (.slice Ao19 t468.length co19 : Value).ownBlock) ∧ some k_ ≠ (.slice Ao26 t481.length co26 : Value).ownBlock) ∧ some k_ ≠ (.slice Ao27 t484.length co27 : Value).ownBlock) ∧ some k_ ≠ (.slice Ao99 t509.length co99 : Value).ownBlock)) (n := t514.length) (c := co105) ?_).2.2; exact (by (with_reducible repeat (first | apply Kd.R_alloc | apply Kd.R_drewN | apply Kd.R_drew)); exact (Kd.R_mono (Kd.R_far (p := ⟨gb524, 3, none⟩) (Kd.R_far (p := ⟨gb524, 2, none⟩) (Kd.R_far (p := ⟨gb524, 1, none⟩) (Kd.R_far (p := ⟨gb524, 0, none⟩) (Kd.R_types HO516.out BK524.out (by decide)) (fun _ hk => hk.2) (.int .i64 t512)) (fun _ hk => hk.2) (.int .i64 t513)) (fun _ hk => hk.2) (.slice Ao105 t514.length co105)) (fun _ hk => hk.2) (.slice Ao106 t517.length co106)) (fun _ h_ => h_.1)))); (case side2 => exact (Kd.R_reads' HO516.out).2.1); (case side3 => refine (Kd.R_reads' (e := 45) (base := w.heap.size) (ok := fun k_ => (((((some k_ ≠ (.slice Ao105 t514.length co105 : Value).ownBlock ∧ some k_ ≠ (.slice Ao18 t465.length co18 : Value).ownBlock) ∧ some k_ ≠ (.slice Ao19 t468.length co19 : Value).ownBlock) ∧ some k_ ≠ (.slice Ao26 t481.length co26 : Value).ownBlock) ∧ some k_ ≠ (.slice Ao27 t484.length co27 : Value).ownBlock) ∧ some k_ ≠ (.slice Ao99 t509.length co99 : Value).ownBlock)) (n := t517.length) (c := co106) ?_).2.2; exact (by (with_reducible repeat (first | apply Kd.R_alloc | apply Kd.R_drewN | apply Kd.R_drew)); exact (Kd.R_mono (Kd.R_far (p := ⟨gb524, 3, none⟩) (Kd.R_far (p := ⟨gb524, 2, none⟩) (Kd.R_far (p := ⟨gb524, 1, none⟩) (Kd.R_far (p := ⟨gb524, 0, none⟩) (Kd.R_types HO519.out BK524.out (by decide)) (fun _ hk => hk.2) (.int .i64 t512)) (fun _ hk => hk.2) (.int .i64 t513)) (fun _ hk => hk.2) (.slice Ao105 t514.length co105)) (fun _ hk => hk.2) (.slice Ao106 t517.length co106)) (fun _ h_ => h_.1)))); (case side4 => exact (Kd.R_reads' HO519.out).2.1); (case side5 => refine (Kd.R_reads' (e := 45) (base := w.heap.size) (ok := fun k_ => ((((some k_ ≠ (.slice Ao19 t468.length co19 : Value).ownBlock ∧ (some k_ ≠ (.slice Ao26 t481.length co26 : Value).ownBlock ∧ some k_ ≠ (.slice Ao27 t484.length co27 : Value).ownBlock)) ∧ some k_ ≠ (.slice Ao99 t509.length co99 : Value).ownBlock) ∧ some k_ ≠ (.slice Ao105 t514.length co105 : Value).ownBlock) ∧ some k_ ≠ (.slice Ao106 t517.length co106 : Value).ownBlock)) (n := t465.length) (c := co18) ?_).2.2; exact (by (with_reducible repeat (first | apply Kd.R_alloc | apply Kd.R_drewN | apply Kd.R_drew)); exact (Kd.R_mono (Kd.R_far (p := ⟨gb524, 3, none⟩) (Kd.R_far (p := ⟨gb524, 2, none⟩) (Kd.R_far (p := ⟨gb524, 1, none⟩) (Kd.R_far (p := ⟨gb524, 0, none⟩) (Kd.R_types HO_476002.out BK524.out (by decide)) (fun _ hk => hk.2) (.int .i64 t512)) (fun _ hk => hk.2) (.int .i64 t513)) (fun _ hk => hk.2) (.slice Ao105 t514.length co105)) (fun _ hk => hk.2) (.slice Ao106 t517.length co106)) (fun _ h_ => h_.1)))); (case side6 => exact (Kd.R_reads' HO_476002.out).2.1); (case side7 => refine (Kd.R_reads' (e := 45) (base := w.heap.size) (ok := fun k_ => ((((some k_ ≠ (.slice Ao18 t465.length co18 : Value).ownBlock ∧ (some k_ ≠ (.slice Ao26 t481.length co26 : Value).ownBlock ∧ some k_ ≠ (.slice Ao27 t484.length co27 : Value).ownBlock)) ∧ some k_ ≠ (.slice Ao99 t509.length co99 : Value).ownBlock) ∧ some k_ ≠ (.slice Ao105 t514.length co105 : Value).ownBlock) ∧ some k_ ≠ (.slice Ao106 t517.length co106 : Value).ownBlock)) (n := t468.length) (c := co19) ?_).2.2; exact (by (with_reducible repeat (first | apply Kd.R_alloc | apply Kd.R_drewN | apply Kd.R_drew)); exact (Kd.R_mono (Kd.R_far (p := ⟨gb524, 3, none⟩) (Kd.R_far (p := ⟨gb524, 2, none⟩) (Kd.R_far (p := ⟨gb524, 1, none⟩) (Kd.R_far (p := ⟨gb524, 0, none⟩) (Kd.R_types HO_476003.out BK524.out (by decide)) (fun _ hk => hk.2) (.int .i64 t512)) (fun _ hk => hk.2) (.int .i64 t513)) (fun _ hk => hk.2) (.slice Ao105 t514.length co105)) (fun _ hk => hk.2) (.slice Ao106 t517.length co106)) (fun _ h_ => h_.1)))); (case side8 => exact (Kd.R_reads' HO_476003.out).2.1); rintro e w132 ⟨rfl, hb⟩; refine ⟨_, rfl, ?_⟩; have n0_ := Aside0.mk (Kd.R_below (by (with_reducible repeat (first | apply Kd.R_alloc | apply Kd.R_drewN | apply Kd.R_drew)); exact (Kd.R_mono (Kd.R_far (p := ⟨gb524, 3, none⟩) (Kd.R_far (p := ⟨gb524, 2, none⟩) (Kd.R_far (p := ⟨gb524, 1, none⟩) (Kd.R_far (p := ⟨gb524, 0, none⟩) (Kd.R_types HO_9.out BK524.out (by decide)) (fun _ hk => hk.2) (.int .i64 t512)) (fun _ hk => hk.2) (.int .i64 t513)) (fun _ hk => hk.2) (.slice Ao105 t514.length co105)) (fun _ hk => hk.2) (.slice Ao106 t517.length co106)) (fun _ h_ => h_.1))) hb); have n1_ := Aside0.mk (Kd.R_below (by (with_reducible repeat (first | apply Kd.R_alloc | apply Kd.R_drewN | apply Kd.R_drew)); exact (Kd.R_mono (Kd.R_far (p := ⟨gb524, 3, none⟩) (Kd.R_far (p := ⟨gb524, 2, none⟩) (Kd.R_far (p := ⟨gb524, 1, none⟩) (Kd.R_far (p := ⟨gb524, 0, none⟩) (Kd.R_types HO_13.out BK524.out (by decide)) (fun _ hk => hk.2) (.int .i64 t512)) (fun _ hk => hk.2) (.int .i64 t513)) (fun _ hk => hk.2) (.slice Ao105 t514.length co105)) (fun _ hk => hk.2) (.slice Ao106 t517.length co106)) (fun _ h_ => h_.1))) hb); have n2_ := Aside0.mk (Kd.R_below (by (with_reducible repeat (first | apply Kd.R_alloc | apply Kd.R_drewN | apply Kd.R_drew)); exact (Kd.R_mono (Kd.R_far (p := ⟨gb524, 3, none⟩) (Kd.R_far (p := ⟨gb524, 2, none⟩) (Kd.R_far (p := ⟨gb524, 1, none⟩) (Kd.R_far (p := ⟨gb524, 0, none⟩) (Kd.R_types HO_476002.out BK524.out (by decide)) (fun _ hk => hk.2) (.int .i64 t512)) (fun _ hk => hk.2) (.int .i64 t513)) (fun _ hk => hk.2) (.slice Ao105 t514.length co105)) (fun _ hk => hk.2) (.slice Ao106 t517.length co106)) (fun _ h_ => h_.1))) hb); have n3_ := Aside0.mk (Kd.R_below (by (with_reducible repeat (first | apply Kd.R_alloc | apply Kd.R_drewN | apply Kd.R_drew)); exact (Kd.R_mono (Kd.R_far (p := ⟨gb524, 3, none⟩) (Kd.R_far (p := ⟨gb524, 2, none⟩) (Kd.R_far (p := ⟨gb524, 1, none⟩) (Kd.R_far (p := ⟨gb524, 0, none⟩) (Kd.R_types HO_476003.out BK524.out (by decide)) (fun _ hk => hk.2) (.int .i64 t512)) (fun _ hk => hk.2) (.int .i64 t513)) (fun _ hk => hk.2) (.slice Ao105 t514.length co105)) (fun _ hk => hk.2) (.slice Ao106 t517.length co106)) (fun _ h_ => h_.1))) hb); have n4_ := Aside0.mk (Kd.R_below (by (with_reducible repeat (first | apply Kd.R_alloc | apply Kd.R_drewN | apply Kd.R_drew)); exact (Kd.R_mono (Kd.R_far (p := ⟨gb524, 3, none⟩) (Kd.R_far (p := ⟨gb524, 2, none⟩) (Kd.R_far (p := ⟨gb524, 1, none⟩) (Kd.R_far (p := ⟨gb524, 0, none⟩) (Kd.R_types HO_492002.out BK524.out (by decide)) (fun _ hk => hk.2) (.int .i64 t512)) (fun _ hk => hk.2) (.int .i64 t513)) (fun _ hk => hk.2) (.slice Ao105 t514.length co105)) (fun _ hk => hk.2) (.slice Ao106 t517.length co106)) (fun _ h_ => h_.1))) hb); have n5_ := Aside0.mk (Kd.R_below (by (with_reducible repeat (first | apply Kd.R_alloc | apply Kd.R_drewN | apply Kd.R_drew)); exact (Kd.R_mono (Kd.R_far (p := ⟨gb524, 3, none⟩) (Kd.R_far (p := ⟨gb524, 2, none⟩) (Kd.R_far (p := ⟨gb524, 1, none⟩) (Kd.R_far (p := ⟨gb524, 0, none⟩) (Kd.R_types HO_492003.out BK524.out (by decide)) (fun _ hk => hk.2) (.int .i64 t512)) (fun _ hk => hk.2) (.int .i64 t513)) (fun _ hk => hk.2) (.slice Ao105 t514.length co105)) (fun _ hk => hk.2) (.slice Ao106 t517.length co106)) (fun _ h_ => h_.1))) hb); have n6_ := Aside0.mk (Kd.R_below (by (with_reducible repeat (first | apply Kd.R_alloc | apply Kd.R_drewN | apply Kd.R_drew)); exact (Kd.R_mono (Kd.R_far (p := ⟨gb524, 3, none⟩) (Kd.R_far (p := ⟨gb524, 2, none⟩) (Kd.R_far (p := ⟨gb524, 1, none⟩) (Kd.R_far (p := ⟨gb524, 0, none⟩) (Kd.R_types HO511.out BK524.out (by decide)) (fun _ hk => hk.2) (.int .i64 t512)) (fun _ hk => hk.2) (.int .i64 t513)) (fun _ hk => hk.2) (.slice Ao105 t514.length co105)) (fun _ hk => hk.2) (.slice Ao106 t517.length co106)) (fun _ h_ => h_.1))) hb); have n7_ := Aside0.mk (Kd.R_below (by (with_reducible repeat (first | apply Kd.R_alloc | apply Kd.R_drewN | apply Kd.R_drew)); exact (Kd.R_mono (Kd.R_far (p := ⟨gb524, 3, none⟩) (Kd.R_far (p := ⟨gb524, 2, none⟩) (Kd.R_far (p := ⟨gb524, 1, none⟩) (Kd.R_far (p := ⟨gb524, 0, none⟩) (Kd.R_types HO516.out BK524.out (by decide)) (fun _ hk => hk.2) (.int .i64 t512)) (fun _ hk => hk.2) (.int .i64 t513)) (fun _ hk => hk.2) (.slice Ao105 t514.length co105)) (fun _ hk => hk.2) (.slice Ao106 t517.length co106)) (fun _ h_ => h_.1))) hb); have n8_ := Aside0.mk (Kd.R_below (by (with_reducible repeat (first | apply Kd.R_alloc | apply Kd.R_drewN | apply Kd.R_drew)); exact (Kd.R_mono (Kd.R_far (p := ⟨gb524, 3, none⟩) (Kd.R_far (p := ⟨gb524, 2, none⟩) (Kd.R_far (p := ⟨gb524, 1, none⟩) (Kd.R_far (p := ⟨gb524, 0, none⟩) (Kd.R_types HO519.out BK524.out (by decide)) (fun _ hk => hk.2) (.int .i64 t512)) (fun _ hk => hk.2) (.int .i64 t513)) (fun _ hk => hk.2) (.slice Ao105 t514.length co105)) (fun _ hk => hk.2) (.slice Ao106 t517.length co106)) (fun _ h_ => h_.1))) hb); have n9_ := Aside0.mk (Kd.R_below (by (with_reducible repeat (first | apply Kd.R_alloc | apply Kd.R_drewN | apply Kd.R_drew)); exact (Kd.R_mono (Kd.R_far (p := ⟨gb524, 3, none⟩) (Kd.R_far (p := ⟨gb524, 2, none⟩) (Kd.R_far (p := ⟨gb524, 1, none⟩) (Kd.R_far (p := ⟨gb524, 0, none⟩) (Kd.R_types HO522.out BK524.out (by decide)) (fun _ hk => hk.2) (.int .i64 t512)) (fun _ hk => hk.2) (.int .i64 t513)) (fun _ hk => hk.2) (.slice Ao105 t514.length co105)) (fun _ hk => hk.2) (.slice Ao106 t517.length co106)) (fun _ h_ => h_.1))) hb); have n10_ := Aside0.mk (blk_below (g := gb475) (o := .cells #[.int .i64 t463, .int .i64 t464, .slice Ao18 t465.length co18, .slice Ao19 t468.length co19] 28 (0, 0)) (by (with_reducible repeat (first | refine blk_drewN ?_ _ | refine blk_drew ?_ | refine blk_alloc ?_ _)); refine blk_far ?_ NB475_524.out _; (with_reducible repeat (first | refine blk_drewN ?_ _ | refine blk_drew ?_ | refine blk_alloc ?_ _)); refine blk_far ?_ NB475_524.out _; (with_reducible repeat (first | refine blk_drewN ?_ _ | refine blk_drew ?_ | refine blk_alloc ?_ _)); refine blk_far ?_ NB475_524.out _; (with_reducible repeat (first | refine blk_drewN ?_ _ | refine blk_drew ?_ | refine blk_alloc ?_ _)); refine blk_far ?_ NB475_524.out _; exact bk BK475.out) hb); have n11_ := Aside0.mk (blk_below (g := gb491) (o := .cells #[.int .i64 t479, .int .i64 t480, .slice Ao26 t481.length co26, .slice Ao27 t484.length co27] 28 (0, 0)) (by (with_reducible repeat (first | refine blk_drewN ?_ _ | refine blk_drew ?_ | refine blk_alloc ?_ _)); refine blk_far ?_ NB491_524.out _; (with_reducible repeat (first | refine blk_drewN ?_ _ | refine blk_drew ?_ | refine blk_alloc ?_ _)); refine blk_far ?_ NB491_524.out _; (with_reducible repeat (first | refine blk_drewN ?_ _ | refine blk_drew ?_ | refine blk_alloc ?_ _)); refine blk_far ?_ NB491_524.out _; (with_reducible repeat (first | refine blk_drewN ?_ _ | refine blk_drew ?_ | refine blk_alloc ?_ _)); refine blk_far ?_ NB491_524.out _; exact bk BK491.out) hb); have n12_ := Aside0.mk (blk_below (g := gb524) (o := .cells #[.int .i64 t512, .int .i64 t513, .slice Ao105 t514.length co105, .slice Ao106 t517.length co106] 28 (0, 0)) (by (with_reducible repeat (first | refine blk_drewN ?_ _ | refine blk_drew ?_ | refine blk_alloc ?_ _)); refine blk_put (cs := #[.int .i64 t512, .int .i64 t513, .slice Ao105 t514.length co105, .slice none 0 0]) ?_ 3 _ rfl; (with_reducible repeat (first | refine blk_drewN ?_ _ | refine blk_drew ?_ | refine blk_alloc ?_ _)); refine blk_put (cs := #[.int .i64 t512, .int .i64 t513, .slice none 0 0, .slice none 0 0]) ?_ 2 _ rfl; (with_reducible repeat (first | refine blk_drewN ?_ _ | refine blk_drew ?_ | refine blk_alloc ?_ _)); refine blk_put (cs := #[.int .i64 t512, .int .i64 0, .slice none 0 0, .slice none 0 0]) ?_ 1 _ rfl; (with_reducible repeat (first | refine blk_drewN ?_ _ | refine blk_drew ?_ | refine blk_alloc ?_ _)); refine blk_put (cs := #[.int .i64 0, .int .i64 0, .slice none 0 0, .slice none 0 0]) ?_ 0 _ rfl; exact bk BK524.out) hb); have n13_ := Aside0.mk (below_step (bl3 HB.out GE475.out GE491.out GE524.out) hb); clear HO_9; clear HO_13; clear HO_476002; clear HO_476003; clear HO_492002; clear HO_492003; clear HO511; clear HO516; clear HO519; clear HO522; clear BK475; clear BK491; clear BK524; clear HB; have HO_9 := n0_; have HO_13 := n1_; have HO_476002 := n2_; have HO_476003 := n3_; have HO_492002 := n4_; have HO_492003 := n5_; have HO511 := n6_; have HO516 := n7_; have HO519 := n8_; have HO522 := n9_; have BK475 := n10_; have BK491 := n11_; have BK524 := n12_; have HB := n13_; clear n0_ n1_ n2_ n3_ n4_ n5_ n6_ n7_ n8_ n9_ n10_ n11_ n12_ n13_; (try clear hb); (try clear hb2); (try clear hk); (try clear hi)))
              go_meet
              case rel => exact ⟨_, (true), (by first | rfl | (simp; done) | (simp [*]; done)), H', ⟨by have := HJ10.out; have := HJ52.out; first | omega | exact Nat.le_refl _⟩, ⟨by (with_reducible repeat (first | apply Kd.R_alloc | apply Kd.R_drewN | apply Kd.R_drew)); exact Kd.R_mono HO_13.out (fun _ hk => trivial)⟩, ⟨by (with_reducible repeat (first | apply Kd.R_alloc | apply Kd.R_drewN | apply Kd.R_drew)); exact Kd.R_mono HO_476002.out (fun _ hk => ⟨hk.1.1.1.1, ⟨hk.1.1.1.2.1, ⟨hk.1.1.1.2.2, ⟨hk.1.2, hk.2⟩⟩⟩⟩)⟩, ⟨by (with_reducible repeat (first | apply Kd.R_alloc | apply Kd.R_drewN | apply Kd.R_drew)); exact Kd.R_mono HO_476003.out (fun _ hk => ⟨hk.1.1.1.1, ⟨hk.1.1.1.2.1, ⟨hk.1.1.1.2.2, ⟨hk.1.2, hk.2⟩⟩⟩⟩)⟩, ⟨by (with_reducible repeat (first | apply Kd.R_alloc | apply Kd.R_drewN | apply Kd.R_drew)); exact Kd.R_mono HO_492002.out (fun _ hk => ⟨hk.1.1.1.1, ⟨hk.1.1.1.2.1, ⟨hk.1.1.1.2.2, ⟨hk.1.2, hk.2⟩⟩⟩⟩)⟩, ⟨by (with_reducible repeat (first | apply Kd.R_alloc | apply Kd.R_drewN | apply Kd.R_drew)); exact Kd.R_mono HO_492003.out (fun _ hk => ⟨hk.1.1.1.1, ⟨hk.1.1.1.2.1, ⟨hk.1.1.1.2.2, ⟨hk.1.2, hk.2⟩⟩⟩⟩)⟩, ⟨by (with_reducible repeat (first | apply Kd.R_alloc | apply Kd.R_drewN | apply Kd.R_drew)); exact Kd.R_mono HO516.out (fun _ hk => ⟨hk.1.1.1.1.2, ⟨hk.1.1.1.2, ⟨hk.1.1.2, ⟨hk.1.2, hk.1.1.1.1.1⟩⟩⟩⟩)⟩, ⟨by (with_reducible repeat (first | apply Kd.R_alloc | apply Kd.R_drewN | apply Kd.R_drew)); exact Kd.R_mono HO519.out (fun _ hk => ⟨hk.1.1.1.1.2, ⟨hk.1.1.1.2, ⟨hk.1.1.2, ⟨hk.1.2, hk.1.1.1.1.1⟩⟩⟩⟩)⟩, ⟨bk BK475.out⟩, ⟨bk BK491.out⟩, ⟨bk BK524.out⟩, ⟨bl3 HB.out GE475.out GE491.out GE524.out⟩⟩
            case rest =>
             clear HC89
             try clear c1
             try clear c2
             try clear p2
             try clear c3
             try clear c4
             try clear c5
             try clear c5b0
             try clear c6
             try clear c7
             try clear c8
             try clear c9
             try clear c10
             try clear c11
             try clear c12
             try clear c13
             try clear c14
             try clear c15
             try clear c17
             try clear c18
             try clear c24
             try clear c27
             try clear c28
             try clear c29
             try clear c31
             try clear c32
             try clear c33
             try clear c35
             try clear c36
             try clear c38
             try clear c44
             try clear c48
             try clear c51
             try clear c58
             try clear c58b0
             try clear c60
             try clear c62
             try clear c63
             try clear c69
             try clear c75
             try clear c79
             try clear c83
             try clear c83b0
             try clear c85
             try clear c85b0
             try clear c86
             try clear c86b0
             try clear c86b1
             try clear c90
             try clear c102
             try clear c103
             try clear c108
             try clear c110
             try clear c111
             try clear c112
             try clear c114
             try clear c119
             try clear c120
             try clear c122
             try clear c127
             try clear c128
             try clear c130
             try clear hcz104_0
             try clear hcz104_1
             try clear hcz104_2
             try clear hcz104_3
             try clear hcz113_0
             try clear hcz113_1
             try clear hcz113_2
             try clear hcz113_3
             try clear hcz115_0
             try clear hcz115_1
             try clear hcz115_2
             try clear hcz115_3
             try clear hcz121_0
             try clear hcz121_1
             try clear hcz121_2
             try clear hcz121_3
             try clear hcz123_0
             try clear hcz123_1
             try clear hcz123_2
             try clear hcz123_3
             try clear hcz129_0
             try clear hcz129_1
             try clear hcz129_2
             try clear hcz129_3
             try clear hcz131_0
             try clear hcz131_1
             try clear hcz131_2
             try clear hcz131_3
             try clear hcz17_0
             try clear hcz17_1
             try clear hcz17_2
             try clear hcz17_3
             try clear hcz25_0
             try clear hcz25_1
             try clear hcz25_2
             try clear hcz25_3
             try clear hcz33_0
             try clear hcz33_1
             try clear hcz33_2
             try clear hcz33_3
             try clear hcz34_0
             try clear hcz34_1
             try clear hcz34_2
             try clear hcz34_3
             try clear hcz39_0
             try clear hcz39_1
             try clear hcz39_2
             try clear hcz39_3
             try clear hcz40_0
             try clear hcz40_1
             try clear hcz40_2
             try clear hcz40_3
             try clear hcz45_0
             try clear hcz45_1
             try clear hcz45_2
             try clear hcz45_3
             try clear hcz46_0
             try clear hcz46_1
             try clear hcz46_2
             try clear hcz46_3
             try clear hcz64_0
             try clear hcz64_1
             try clear hcz64_2
             try clear hcz64_3
             try clear hcz65_0
             try clear hcz65_1
             try clear hcz65_2
             try clear hcz65_3
             try clear hcz70_0
             try clear hcz70_1
             try clear hcz70_2
             try clear hcz70_3
             try clear hcz71_0
             try clear hcz71_1
             try clear hcz71_2
             try clear hcz71_3
             try clear hcz76_0
             try clear hcz76_1
             try clear hcz76_2
             try clear hcz76_3
             try clear hcz77_0
             try clear hcz77_1
             try clear hcz77_2
             try clear hcz77_3
             try clear hcz91_0
             try clear hcz91_1
             try clear hcz91_2
             try clear hcz91_3
             try clear hcz95_0
             try clear hcz95_1
             try clear hcz95_2
             try clear hcz95_3
             try clear hfz104_0
             try clear hfz104_1
             try clear hfz104_2
             try clear hfz104_3
             try clear hfz113_0
             try clear hfz113_1
             try clear hfz113_2
             try clear hfz113_3
             try clear hfz115_0
             try clear hfz115_1
             try clear hfz115_2
             try clear hfz115_3
             try clear hfz121_0
             try clear hfz121_1
             try clear hfz121_2
             try clear hfz121_3
             try clear hfz123_0
             try clear hfz123_1
             try clear hfz123_2
             try clear hfz123_3
             try clear hfz129_0
             try clear hfz129_1
             try clear hfz129_2
             try clear hfz129_3
             try clear hfz131_0
             try clear hfz131_1
             try clear hfz131_2
             try clear hfz131_3
             try clear hfz17_0
             try clear hfz17_1
             try clear hfz17_2
             try clear hfz17_3
             try clear hfz25_0
             try clear hfz25_1
             try clear hfz25_2
             try clear hfz25_3
             try clear hfz33_0
             try clear hfz33_1
             try clear hfz33_2
             try clear hfz33_3
             try clear hfz34_0
             try clear hfz34_1
             try clear hfz34_2
             try clear hfz34_3
             try clear hfz39_0
             try clear hfz39_1
             try clear hfz39_2
             try clear hfz39_3
             try clear hfz40_0
             try clear hfz40_1
             try clear hfz40_2
             try clear hfz40_3
             try clear hfz45_0
             try clear hfz45_1
             try clear hfz45_2
             try clear hfz45_3
             try clear hfz46_0
             try clear hfz46_1
             try clear hfz46_2
             try clear hfz46_3
             try clear hfz64_0
             try clear hfz64_1
             try clear hfz64_2
             try clear hfz64_3
             try clear hfz65_0
             try clear hfz65_1
             try clear hfz65_2
             try clear hfz65_3
             try clear hfz70_0
             try clear hfz70_1
             try clear hfz70_2
             try clear hfz70_3
             try clear hfz71_0
             try clear hfz71_1
             try clear hfz71_2
             try clear hfz71_3
             try clear hfz76_0
             try clear hfz76_1
             try clear hfz76_2
             try clear hfz76_3
             try clear hfz77_0
             try clear hfz77_1
             try clear hfz77_2
             try clear hfz77_3
             try clear hfz91_0
             try clear hfz91_1
             try clear hfz91_2
             try clear hfz91_3
             try clear hfz95_0
             try clear hfz95_1
             try clear hfz95_2
             try clear hfz95_3
             try clear p2
             obtain ⟨kq, x129_88, rfl, HA, HJ88, HO_13, HO_476002, HO_476003, HO_492002, HO_492003, HO_525002, HO_525003, BK475, BK491, BK524, HB⟩ := hcut
             have hl13_88 := (Kd.R_reads' HO_13.out).1
             rw [hl13_88] at HO_13
             (try simp only [hl13_88])
             (try simp only [hl13_88] at BK475)
             (try simp only [hl13_88] at BK491)
             (try simp only [hl13_88] at BK524)
             (try simp only [hl13_88] at HO_476002)
             (try simp only [hl13_88] at HO_476003)
             (try simp only [hl13_88] at HO_492002)
             (try simp only [hl13_88] at HO_492003)
             (try simp only [hl13_88] at HO_525002)
             (try simp only [hl13_88] at HO_525003)
             have hl492002_88 := (Kd.R_reads' HO_492002.out).1
             rw [hl492002_88] at HO_492002
             (try simp only [hl492002_88])
             (try simp only [hl492002_88] at BK475)
             (try simp only [hl492002_88] at BK491)
             (try simp only [hl492002_88] at BK524)
             (try simp only [hl492002_88] at HO_13)
             (try simp only [hl492002_88] at HO_476002)
             (try simp only [hl492002_88] at HO_476003)
             (try simp only [hl492002_88] at HO_492003)
             (try simp only [hl492002_88] at HO_525002)
             (try simp only [hl492002_88] at HO_525003)
             have hl492003_88 := (Kd.R_reads' HO_492003.out).1
             rw [hl492003_88] at HO_492003
             (try simp only [hl492003_88])
             (try simp only [hl492003_88] at BK475)
             (try simp only [hl492003_88] at BK491)
             (try simp only [hl492003_88] at BK524)
             (try simp only [hl492003_88] at HO_13)
             (try simp only [hl492003_88] at HO_476002)
             (try simp only [hl492003_88] at HO_476003)
             (try simp only [hl492003_88] at HO_492002)
             (try simp only [hl492003_88] at HO_525002)
             (try simp only [hl492003_88] at HO_525003)
             cases kq with
             | zero => exact absurd HA.out (by simp [laws_FnExactPlaySegmented.j2])
             | succ kj88 =>
              have H := HA.out
              clear HA
              simp only [laws_FnExactPlaySegmented.j2] at H
              by_cases c133 : x129_88 = true
              ·subst c133
               have H1 : (none) = some r := by rw [if_pos rfl] at H; exact H
               clear H
               have H := H1
               clear H1
               exact absurd H (by simp)
              ·replace c133 := Bool.eq_false_iff.mpr c133
               subst c133
               have H1 : ((laws_heldSegmented.f kj88 t479 t480 t503 t504 1).bind fun t527 => (if t527 < 0 then (none) else ((laws_heldStringS.f kj88 t506 t527).bind fun t528 => (if t528 < 0 then (none) else (if t528 = t505 then (some true) else (none)))))) = some r := by rw [if_neg (show ¬ (false = true) by decide)] at H; exact H
               clear H
               have H := H1
               clear H1
               replace H := Option.bind_eq_some_iff.mp H
               obtain ⟨t527, A1340, H⟩ := H
               try dsimp only at H
               have A134 := Aside0.mk A1340
               clear A1340
               by_cases c135 : t527 < 0
               ·rw [if_pos c135] at H
                exact absurd H (by simp)
               ·rw [if_neg c135] at H
                have c135b0 : decide (t527 < 0) = false := decide_eq_false c135
                clear c135
                (try (have c135r0 := c135b0; simp only [hl13_88, hl492002_88, hl492003_88] at c135r0))
                replace H := Option.bind_eq_some_iff.mp H
                obtain ⟨t528, A1360, H⟩ := H
                try dsimp only at H
                have A136 := Aside0.mk A1360
                clear A1360
                by_cases c137 : t528 < 0
                ·rw [if_pos c137] at H
                 exact absurd H (by simp)
                ·rw [if_neg c137] at H
                 have c137b0 : decide (t528 < 0) = false := decide_eq_false c137
                 clear c137
                 (try (have c137r0 := c137b0; simp only [hl13_88, hl492002_88, hl492003_88] at c137r0))
                 by_cases c138 : t528 = t505
                 ·rw [if_pos c138] at H
                  have c138b0 : (t528 == t505) = true := beq_iff_eq.mpr c138
                  have c138b1 : (t528 != t505) = false := bne_eq_false_iff_eq.mpr c138
                  clear c138
                  (try (have c138r0 := c138b0; simp only [hl13_88, hl492002_88, hl492003_88] at c138r0))
                  (try (have c138r1 := c138b1; simp only [hl13_88, hl492002_88, hl492003_88] at c138r1))
                  obtain rfl := Option.some.inj H
                  have hnb139 := NB491_475.out
                  have hnc139 := NB475_491.out
                  have hnb140 := NB491_524.out
                  have hnc140 := NB524_491.out
                  have hcz141_0 := bc0 BK491.out
                  have hcz141_1 := bc1 BK491.out
                  have hcz141_2 := bc2 BK491.out
                  have hcz141_3 := bc3 BK491.out
                  have hfz141_0 := blk_frozen BK491.out 0
                  have hfz141_1 := blk_frozen BK491.out 1
                  have hfz141_2 := blk_frozen BK491.out 2
                  have hfz141_3 := blk_frozen BK491.out 3
                  go_wp2_with (first | ((with_reducible refine gate_callee (f := 15) rfl ?_); refine goesL_ (some 132) rfl rfl Try.func15 (by kernel_rfl) rfl #[.agg #[.int .i64 t479, .int .i64 t480, .slice Ao26 t503.length co26, .slice Ao27 t504.length co27], .int .i64 1] rfl (by (try simp only [List.map_toArray, List.map_cons, List.map_nil]); first | done | rfl | (simp only [List.length_drop, List.length_take]; rfl)) ?_; (with_reducible refine (laws_heldSegmented.calls kj88 t479 t480 _ _ t503 _ _ t504 1 t527 _ ?side1 ?side2 ?side3 ?side4 A134.out).mono ?_); (case side1 => exact kc (Kd.R_reads' HO_492002.out).2.2); (case side2 => exact (Kd.R_reads' HO_492002.out).2.1); (case side3 => exact kc (Kd.R_reads' HO_492003.out).2.2); (case side4 => exact (Kd.R_reads' HO_492003.out).2.1); rintro e w142 ⟨rfl, hb⟩; refine ⟨_, rfl, ?_⟩; have n0_ := Aside0.mk (Kd.R_below (kr HO_13.out) hb); have n1_ := Aside0.mk (Kd.R_below (kr HO_476002.out) hb); have n2_ := Aside0.mk (Kd.R_below (kr HO_476003.out) hb); have n3_ := Aside0.mk (Kd.R_below (kr HO_492002.out) hb); have n4_ := Aside0.mk (Kd.R_below (kr HO_492003.out) hb); have n5_ := Aside0.mk (Kd.R_below (kr HO_525002.out) hb); have n6_ := Aside0.mk (Kd.R_below (kr HO_525003.out) hb); have n7_ := Aside0.mk (blk_below (bk BK475.out) hb); have n8_ := Aside0.mk (blk_below (bk BK491.out) hb); have n9_ := Aside0.mk (blk_below (bk BK524.out) hb); have n10_ := Aside0.mk (below_step (bl3 HB.out GE475.out GE491.out GE524.out) hb); clear HO_13; clear HO_476002; clear HO_476003; clear HO_492002; clear HO_492003; clear HO_525002; clear HO_525003; clear BK475; clear BK491; clear BK524; clear HB; have HO_13 := n0_; have HO_476002 := n1_; have HO_476003 := n2_; have HO_492002 := n3_; have HO_492003 := n4_; have HO_525002 := n5_; have HO_525003 := n6_; have BK475 := n7_; have BK491 := n8_; have BK524 := n9_; have HB := n10_; clear n0_ n1_ n2_ n3_ n4_ n5_ n6_ n7_ n8_ n9_ n10_; (try clear hb); (try clear hb2); (try clear hk); (try clear hi)) | ((with_reducible refine gate_callee (f := 36) rfl ?_); refine goesL_ (some 137) rfl rfl Try.func36 (by kernel_rfl) rfl #[.slice Ao93 t506.length co93, .int .i64 t527] rfl (by (try simp only [List.map_toArray, List.map_cons, List.map_nil]); first | done | rfl | (simp only [List.length_drop, List.length_take]; rfl)) ?_; (with_reducible refine (laws_heldStringS.calls kj88 _ _ t506 t527 t528 _ ?side1 ?side2 A136.out).mono ?_); (case side1 => exact kc (Kd.R_reads' HO_13.out).2.2); (case side2 => exact (Kd.R_reads' HO_13.out).2.1); rintro e w143 ⟨rfl, hb⟩; refine ⟨_, rfl, ?_⟩; have n0_ := Aside0.mk (Kd.R_below (kr HO_13.out) hb); have n1_ := Aside0.mk (Kd.R_below (kr HO_476002.out) hb); have n2_ := Aside0.mk (Kd.R_below (kr HO_476003.out) hb); have n3_ := Aside0.mk (Kd.R_below (kr HO_492002.out) hb); have n4_ := Aside0.mk (Kd.R_below (kr HO_492003.out) hb); have n5_ := Aside0.mk (Kd.R_below (kr HO_525002.out) hb); have n6_ := Aside0.mk (Kd.R_below (kr HO_525003.out) hb); have n7_ := Aside0.mk (blk_below (bk BK475.out) hb); have n8_ := Aside0.mk (blk_below (bk BK491.out) hb); have n9_ := Aside0.mk (blk_below (bk BK524.out) hb); have n10_ := Aside0.mk (below_step (bl3 HB.out GE475.out GE491.out GE524.out) hb); clear HO_13; clear HO_476002; clear HO_476003; clear HO_492002; clear HO_492003; clear HO_525002; clear HO_525003; clear BK475; clear BK491; clear BK524; clear HB; have HO_13 := n0_; have HO_476002 := n1_; have HO_476003 := n2_; have HO_492002 := n3_; have HO_492003 := n4_; have HO_525002 := n5_; have HO_525003 := n6_; have BK475 := n7_; have BK491 := n8_; have BK524 := n9_; have HB := n10_; clear n0_ n1_ n2_ n3_ n4_ n5_ n6_ n7_ n8_ n9_ n10_; (try clear hb); (try clear hb2); (try clear hk); (try clear hi)))
                  go_ret
                  exact ⟨by first | rfl | (simp [errW_none, errW_some] <;> rfl) | (simp [*, errW_none, errW_some] <;> rfl), bl3 HB.out GE475.out GE491.out GE524.out⟩
                 ·rw [if_neg c138] at H
                  exact absurd H (by simp)
           ·rw [if_neg c86] at H
            exact absurd H (by simp)
     ·replace c51 := Bool.eq_false_iff.mpr c51
      subst c51
      have H1 : (none) = some r := by rw [if_neg (show ¬ (false = true) by decide)] at H; exact H
      clear H
      have H := H1
      clear H1
      exact absurd H (by simp)

def wf49 (x : S49) : Prop := x.f0.size ≤ 140737488351232 ∧ x.f1.size ≤ 140737488351232
theorem op49 : Opens Try.prog 49 k49 wf49 := Opens.struct (d := (Kd.pair Kd.string Kd.string)) (fun x : S49 => (x.f0, x.f1)) (fun p => (⟨p.1, p.2⟩ : S49)) (fun _ => rfl) Try.underlying49 (by kernel_rfl) (OpensL.cons rfl (by kernel_rfl) (Opens.string Try.underlying9) (OpensL.last rfl (by kernel_rfl) (Opens.string Try.underlying9)))
/-- THE ONE PURE STATEMENT of laws_FnExactPlaySegmented: yours. -/
def laws_FnExactPlaySegmented.Pure : Prop := ∀ (a0 : Int) (a1 : Int) (l2 : List (S49)), (Lit.int .i64 a0).wf = true → (Lit.int .i64 a1).wf = true → (l2.length * 32 ≤ 140737488351232 ∧ ∀ y529 ∈ l2, wf49 y529) → ∃ k, laws_FnExactPlaySegmented.f k a0 a1 l2 = some true
set_option maxRecDepth 100000 in
theorem laws_FnExactPlaySegmented.walk (P : laws_FnExactPlaySegmented.Pure) (a0 : Int) (a1 : Int) (l2 : List (S49)) (A2 : Option Addr) (c2 : Nat) (w : World) (w0 : (Lit.int .i64 a0).wf = true) (w1 : (Lit.int .i64 a1).wf = true) (hr2 : Kd.C k49 w A2 l2.length l2) (hc2 : l2.length ≤ c2) (w2 : (l2.length * 32 ≤ 140737488351232 ∧ ∀ y529 ∈ l2, wf49 y529)) :
  Calls Try.prog 7 #[.int .i64 a0, .int .i64 a1, .slice A2 l2.length c2] w fun e w' => e = .returned (.bool true) ∧ Below w.heap.size w w' := by
 obtain ⟨k, h⟩ := P a0 a1 l2 w0 w1 w2
 refine (laws_FnExactPlaySegmented.calls k a0 a1 _ _ l2 true w hr2 hc2 h).mono ?_
 rintro e w' ⟨rfl, hd⟩
 exact ⟨rfl, hd⟩

end Go.Proofs.Ytfopmaiednikhaa.PFnExactPlaySegmented
