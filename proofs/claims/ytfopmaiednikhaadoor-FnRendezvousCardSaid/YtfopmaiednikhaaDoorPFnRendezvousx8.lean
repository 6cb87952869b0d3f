-- written by a program of this session (wip/tool)
import Derived.Test.YtfopmaiednikhaaDoorPFnRendezvousx0
import Derived.Test.YtfopmaiednikhaaDoorPFnRendezvousx1
import Derived.Test.YtfopmaiednikhaaDoorPFnRendezvousx2
import Derived.Test.YtfopmaiednikhaaDoorPFnRendezvousx3
import Derived.Test.YtfopmaiednikhaaDoorPFnRendezvousx4
import Derived.Test.YtfopmaiednikhaaDoorPFnRendezvousx5
import Derived.Test.YtfopmaiednikhaaDoorPFnRendezvousx6
import Derived.Test.YtfopmaiednikhaaDoorPFnRendezvousx7
import Derived.Test.YtfopmaiednikhaaDoorOwn0
import Derived.Test.YtfopmaiednikhaaDoorOwnOpen
import Derived.Test.YtfopmaiednikhaaDoorOwnRk
import Derived.WalkKit
import Derived.BigCall
import Derived.Deep.QuietTactic
namespace Go.Proofs.YtfopmaiednikhaaDoor.PFnRendezvous
open Go.RowKit Go.Proofs.YtfopmaiednikhaaDoorW.PrintWords Go.Proofs.YtfopmaiednikhaaDoorW.PrintLast Go.Proofs.YtfopmaiednikhaaDoorW.PrintMore Go.Shelf Go.Proofs.YtfopmaiednikhaaDoorOwn
attribute [local go_sem] max2_int min2_int max_two min_two max_three min_three max_four min_four   -- for this text's walks alone
set_option linter.unusedVariables false
set_option linter.unusedSimpArgs false

/-! ### laws_FnRendezvous: function 6 -/
mutual
def laws_FnRendezvous.j0 : Nat → List Int → List Int → ByteArray → List Int → Bool → Int → Bool → Bool → Option (Bool)
  | 0, _, _, _, _, _, _, _, _ => none
  | k + 1, x1, x5, x6, x7, x8, x11, x12, x93 => if x93 = true then (none) else (if x8 = true then (if (x5.length : Int) > 1 then ((laws_numberOf.f k x1).bind fun t334 => (if (x5.length : Int) = 0 then (none) else ((some (([] : List Int) : List Int)).bind fun y335 => (if 0 ≤ (Int.tmod t334 (x5.length : Int)) then (if (Int.tmod t334 (x5.length : Int)) ≤ (x5.length : Int) then ((some (x5.take ((Int.tmod t334 (x5.length : Int)) : Int).toNat : List Int)).bind fun y338 => (if y335.length + y338.length < 17592186044416 then ((some (y335 ++ y338 : List Int)).bind fun y342 => (if 0 ≤ (wrap64 ((Int.tmod t334 (x5.length : Int)) + 1)) then (if (wrap64 ((Int.tmod t334 (x5.length : Int)) + 1)) ≤ (x5.length : Int) then ((some (x5.drop ((wrap64 ((Int.tmod t334 (x5.length : Int)) + 1)) : Int).toNat : List Int)).bind fun y345 => (if y342.length + y345.length < 17592186044416 then ((some (y342 ++ y345 : List Int)).bind fun y349 => ((impl_RankedOf.f k y349 x6).bind fun bt352 => (laws_FnRendezvous.l0 k x1 x5 x6 x7 x11 x12 (Int.tmod t334 (x5.length : Int)) y349 bt352.1 bt352.2 0 x7 (x7.length : Int) 0))) else (none))) else (none)) else (none))) else (none))) else (none)) else (none))))) else (laws_FnRendezvous.j2 k x1)) else ((spec_DrawMovedKeys.f k x1).bind fun bt392 => ((impl_MovedKeys.f k bt392.1 bt392.2.1 bt392.2.2).bind fun bt401 => ((spec_MovedKeys.f k bt392.1 bt392.2.1 bt392.2.2).bind fun bt405 => ((impl_MovedKeys.f k bt392.1 bt392.2.2 bt392.2.1).bind fun bt409 => (if (bt401.2 == bt405.2) = true then ((laws_sameTexts.f k bt401.1 bt405.1).bind fun t413 => (if t413 = true then (if (bt409.2 == bt401.2) = true then ((laws_sameTexts.f k bt409.1 bt401.1).bind fun t414 => (some t414)) else (none)) else (none))) else (none)))))))
def laws_FnRendezvous.j2 : Nat → List Int → Option (Bool)
  | 0, _ => none
  | k + 1, x1 => (spec_DrawMovedKeys.f k x1).bind fun bt369 => ((impl_MovedKeys.f k bt369.1 bt369.2.1 bt369.2.2).bind fun bt378 => ((spec_MovedKeys.f k bt369.1 bt369.2.1 bt369.2.2).bind fun bt382 => ((impl_MovedKeys.f k bt369.1 bt369.2.2 bt369.2.1).bind fun bt386 => (if (bt378.2 == bt382.2) = true then ((laws_sameTexts.f k bt378.1 bt382.1).bind fun t390 => (if t390 = true then (if (bt386.2 == bt378.2) = true then ((laws_sameTexts.f k bt386.1 bt378.1).bind fun t391 => (some t391)) else (none)) else (none))) else (none)))))
def laws_FnRendezvous.l0 : Nat → List Int → List Int → ByteArray → List Int → Int → Bool → Int → List Int → List Int → Bool → Int → List Int → Int → Int → Option (Bool)
  | 0, _, _, _, _, _, _, _, _, _, _, _, _, _, _ => none
  | k + 1, x1, x5, x6, x7, x11, x12, x15, x16, x17, x18, x19, x121, x122, x123 => if x123 < x122 then (if 0 ≤ x123 then (if x123 < (x121.length : Int) then (if 0 ≤ x15 then (if x15 < (x5.length : Int) then (if (rd x121 x123) = (rd x5 x15) then (laws_FnRendezvous.l0 k x1 x5 x6 x7 x11 x12 x15 x16 x17 x18 x19 x121 x122 (wrap64 (x123 + 1))) else (if x19 ≥ (x17.length : Int) then (none) else (if 0 ≤ x19 then (if x19 < (x17.length : Int) then (if (rd x17 x19) = (rd x121 x123) then (laws_FnRendezvous.l0 k x1 x5 x6 x7 x11 x12 x15 x16 x17 x18 (wrap64 (x19 + 1)) x121 x122 (wrap64 (x123 + 1))) else (none)) else (none)) else (none)))) else (none)) else (none)) else (none)) else (none)) else ((impl_MovedKeys.f k (([x6] : List ByteArray)) x5 x16).bind fun bt359 => (if x12 = true then (if 0 < (x7.length : Int) then (if x11 = (rd x7 0) then (if x18 = true then (if x19 = (x17.length : Int) then (if bt359.2 = true then (if 0 ≤ x15 then (if x15 < (x5.length : Int) then (if (((bt359.1.length : Int) == 1) != ((rd x7 0) == (rd x5 x15))) = true then (none) else (laws_FnRendezvous.j2 k x1)) else (none)) else (none)) else (none)) else (none)) else (none)) else (none)) else (none)) else (none)))
end
def laws_FnRendezvous.f (k : Nat) (l0 : List Int) (l1 : List Int) : Option (Bool) := if (wrap64 ((l0.length : Int) + (l1.length : Int))) > 1048576 then (some true) else ((spec_DrawRankedOf.f k l0).bind fun bt315 => ((impl_RankedOf.f k bt315.1 bt315.2).bind fun bt319 => ((spec_RankedOf.f k bt315.1 bt315.2).bind fun bt323 => ((impl_RendezvousOf.f k bt315.1 bt315.2).bind fun bt327 => ((spec_RendezvousOf.f k bt315.1 bt315.2).bind fun bt329 => (if (bt319.2 != bt323.2) = true then (laws_FnRendezvous.j0 k l1 bt315.1 bt315.2 bt319.1 bt319.2 bt327.1 bt327.2 true) else ((laws_sameInts.f k bt319.1 bt323.1).bind fun t331 => (if t331 = true then (if (bt327.2 != bt329.2) = true then (laws_FnRendezvous.j0 k l1 bt315.1 bt315.2 bt319.1 bt319.2 bt327.1 bt327.2 true) else (if bt327.1 = bt329.1 then ((impl_HashOf.f k bt315.2).bind fun t332 => ((spec_HashOf.f k bt315.2).bind fun t333 => (laws_FnRendezvous.j0 k l1 bt315.1 bt315.2 bt319.1 bt319.2 bt327.1 bt327.2 (t332 != t333)))) else (laws_FnRendezvous.j0 k l1 bt315.1 bt315.2 bt319.1 bt319.2 bt327.1 bt327.2 true))) else (laws_FnRendezvous.j0 k l1 bt315.1 bt315.2 bt319.1 bt319.2 bt327.1 bt327.2 true)))))))))
theorem laws_FnRendezvous.mono_l : ∀ k, (∀ y0 y1 y2 y3 y4 y5 y6 y7, LeO (laws_FnRendezvous.j0 k y0 y1 y2 y3 y4 y5 y6 y7) (laws_FnRendezvous.j0 (k + 1) y0 y1 y2 y3 y4 y5 y6 y7)) ∧ (∀ y0, LeO (laws_FnRendezvous.j2 k y0) (laws_FnRendezvous.j2 (k + 1) y0)) ∧ (∀ y0 y1 y2 y3 y4 y5 y6 y7 y8 y9 y10 y11 y12 y13, LeO (laws_FnRendezvous.l0 k y0 y1 y2 y3 y4 y5 y6 y7 y8 y9 y10 y11 y12 y13) (laws_FnRendezvous.l0 (k + 1) y0 y1 y2 y3 y4 y5 y6 y7 y8 y9 y10 y11 y12 y13))
  | 0 => ⟨fun _ _ _ _ _ _ _ _ r h => by simp [laws_FnRendezvous.j0] at h, fun _ r h => by simp [laws_FnRendezvous.j2] at h, fun _ _ _ _ _ _ _ _ _ _ _ _ _ _ r h => by simp [laws_FnRendezvous.l0] at h⟩
  | k + 1 => by
    obtain ⟨ih0, ih1, ih2⟩ := laws_FnRendezvous.mono_l k
    refine ⟨?_, ?_, ?_⟩
    · intro y0 y1 y2 y3 y4 y5 y6 y7
      unfold laws_FnRendezvous.j0
      repeat' first
      | (with_reducible exact ih0 _ _ _ _ _ _ _ _)
      | (with_reducible exact ih1 _)
      | (with_reducible exact ih2 _ _ _ _ _ _ _ _ _ _ _ _ _ _)
      | (with_reducible exact impl_HashOf.mono _ _)
      | (with_reducible exact impl_MovedKeys.mono _ _ _ _)
      | (with_reducible exact impl_RankedOf.mono _ _ _)
      | (with_reducible exact impl_RendezvousOf.mono _ _ _)
      | (with_reducible exact laws_numberOf.mono _ _)
      | (with_reducible exact laws_sameInts.mono _ _ _)
      | (with_reducible exact laws_sameTexts.mono _ _ _)
      | (with_reducible exact spec_DrawMovedKeys.mono _ _)
      | (with_reducible exact spec_DrawRankedOf.mono _ _)
      | (with_reducible exact spec_HashOf.mono _ _)
      | (with_reducible exact spec_MovedKeys.mono _ _ _ _)
      | (with_reducible exact spec_RankedOf.mono _ _ _)
      | (with_reducible exact spec_RendezvousOf.mono _ _ _)
      | (with_reducible exact LeO.refl _)
      | (with_reducible exact LeO.none _)
      | (with_reducible refine LeO.ite ?_ ?_)
      | (with_reducible refine LeO.bind ?_ (fun _ => ?_))
      | exact ih0 _ _ _ _ _ _ _ _
      | exact ih1 _
      | exact ih2 _ _ _ _ _ _ _ _ _ _ _ _ _ _
      | exact impl_HashOf.mono _ _
      | exact impl_MovedKeys.mono _ _ _ _
      | exact impl_RankedOf.mono _ _ _
      | exact impl_RendezvousOf.mono _ _ _
      | exact laws_numberOf.mono _ _
      | exact laws_sameInts.mono _ _ _
      | exact laws_sameTexts.mono _ _ _
      | exact spec_DrawMovedKeys.mono _ _
      | exact spec_DrawRankedOf.mono _ _
      | exact spec_HashOf.mono _ _
      | exact spec_MovedKeys.mono _ _ _ _
      | exact spec_RankedOf.mono _ _ _
      | exact spec_RendezvousOf.mono _ _ _
      | exact LeO.none _
      | refine LeO.ite ?_ ?_
      | refine LeO.bind ?_ (fun _ => ?_)
    · intro y0
      unfold laws_FnRendezvous.j2
      repeat' first
      | (with_reducible exact ih0 _ _ _ _ _ _ _ _)
      | (with_reducible exact ih1 _)
      | (with_reducible exact ih2 _ _ _ _ _ _ _ _ _ _ _ _ _ _)
      | (with_reducible exact impl_HashOf.mono _ _)
      | (with_reducible exact impl_MovedKeys.mono _ _ _ _)
      | (with_reducible exact impl_RankedOf.mono _ _ _)
      | (with_reducible exact impl_RendezvousOf.mono _ _ _)
      | (with_reducible exact laws_numberOf.mono _ _)
      | (with_reducible exact laws_sameInts.mono _ _ _)
      | (with_reducible exact laws_sameTexts.mono _ _ _)
      | (with_reducible exact spec_DrawMovedKeys.mono _ _)
      | (with_reducible exact spec_DrawRankedOf.mono _ _)
      | (with_reducible exact spec_HashOf.mono _ _)
      | (with_reducible exact spec_MovedKeys.mono _ _ _ _)
      | (with_reducible exact spec_RankedOf.mono _ _ _)
      | (with_reducible exact spec_RendezvousOf.mono _ _ _)
      | (with_reducible exact LeO.refl _)
      | (with_reducible exact LeO.none _)
      | (with_reducible refine LeO.ite ?_ ?_)
      | (with_reducible refine LeO.bind ?_ (fun _ => ?_))
      | exact ih0 _ _ _ _ _ _ _ _
      | exact ih1 _
      | exact ih2 _ _ _ _ _ _ _ _ _ _ _ _ _ _
      | exact impl_HashOf.mono _ _
      | exact impl_MovedKeys.mono _ _ _ _
      | exact impl_RankedOf.mono _ _ _
      | exact impl_RendezvousOf.mono _ _ _
      | exact laws_numberOf.mono _ _
      | exact laws_sameInts.mono _ _ _
      | exact laws_sameTexts.mono _ _ _
      | exact spec_DrawMovedKeys.mono _ _
      | exact spec_DrawRankedOf.mono _ _
      | exact spec_HashOf.mono _ _
      | exact spec_MovedKeys.mono _ _ _ _
      | exact spec_RankedOf.mono _ _ _
      | exact spec_RendezvousOf.mono _ _ _
      | exact LeO.none _
      | refine LeO.ite ?_ ?_
      | refine LeO.bind ?_ (fun _ => ?_)
    · intro y0 y1 y2 y3 y4 y5 y6 y7 y8 y9 y10 y11 y12 y13
      unfold laws_FnRendezvous.l0
      repeat' first
      | (with_reducible exact ih0 _ _ _ _ _ _ _ _)
      | (with_reducible exact ih1 _)
      | (with_reducible exact ih2 _ _ _ _ _ _ _ _ _ _ _ _ _ _)
      | (with_reducible exact impl_HashOf.mono _ _)
      | (with_reducible exact impl_MovedKeys.mono _ _ _ _)
      | (with_reducible exact impl_RankedOf.mono _ _ _)
      | (with_reducible exact impl_RendezvousOf.mono _ _ _)
      | (with_reducible exact laws_numberOf.mono _ _)
      | (with_reducible exact laws_sameInts.mono _ _ _)
      | (with_reducible exact laws_sameTexts.mono _ _ _)
      | (with_reducible exact spec_DrawMovedKeys.mono _ _)
      | (with_reducible exact spec_DrawRankedOf.mono _ _)
      | (with_reducible exact spec_HashOf.mono _ _)
      | (with_reducible exact spec_MovedKeys.mono _ _ _ _)
      | (with_reducible exact spec_RankedOf.mono _ _ _)
      | (with_reducible exact spec_RendezvousOf.mono _ _ _)
      | (with_reducible exact LeO.refl _)
      | (with_reducible exact LeO.none _)
      | (with_reducible refine LeO.ite ?_ ?_)
      | (with_reducible refine LeO.bind ?_ (fun _ => ?_))
      | exact ih0 _ _ _ _ _ _ _ _
      | exact ih1 _
      | exact ih2 _ _ _ _ _ _ _ _ _ _ _ _ _ _
      | exact impl_HashOf.mono _ _
      | exact impl_MovedKeys.mono _ _ _ _
      | exact impl_RankedOf.mono _ _ _
      | exact impl_RendezvousOf.mono _ _ _
      | exact laws_numberOf.mono _ _
      | exact laws_sameInts.mono _ _ _
      | exact laws_sameTexts.mono _ _ _
      | exact spec_DrawMovedKeys.mono _ _
      | exact spec_DrawRankedOf.mono _ _
      | exact spec_HashOf.mono _ _
      | exact spec_MovedKeys.mono _ _ _ _
      | exact spec_RankedOf.mono _ _ _
      | exact spec_RendezvousOf.mono _ _ _
      | exact LeO.none _
      | refine LeO.ite ?_ ?_
      | refine LeO.bind ?_ (fun _ => ?_)
theorem laws_FnRendezvous.mono : ∀ a0 a1 k, LeO (laws_FnRendezvous.f k a0 a1) (laws_FnRendezvous.f (k + 1) a0 a1) := by
  intro a0 a1 k
  obtain ⟨ih0, ih1, ih2⟩ := laws_FnRendezvous.mono_l k
  unfold laws_FnRendezvous.f
  repeat' first
      | (with_reducible exact ih0 _ _ _ _ _ _ _ _)
      | (with_reducible exact ih1 _)
      | (with_reducible exact ih2 _ _ _ _ _ _ _ _ _ _ _ _ _ _)
      | (with_reducible exact impl_HashOf.mono _ _)
      | (with_reducible exact impl_MovedKeys.mono _ _ _ _)
      | (with_reducible exact impl_RankedOf.mono _ _ _)
      | (with_reducible exact impl_RendezvousOf.mono _ _ _)
      | (with_reducible exact laws_numberOf.mono _ _)
      | (with_reducible exact laws_sameInts.mono _ _ _)
      | (with_reducible exact laws_sameTexts.mono _ _ _)
      | (with_reducible exact spec_DrawMovedKeys.mono _ _)
      | (with_reducible exact spec_DrawRankedOf.mono _ _)
      | (with_reducible exact spec_HashOf.mono _ _)
      | (with_reducible exact spec_MovedKeys.mono _ _ _ _)
      | (with_reducible exact spec_RankedOf.mono _ _ _)
      | (with_reducible exact spec_RendezvousOf.mono _ _ _)
      | (with_reducible exact LeO.refl _)
      | (with_reducible exact LeO.none _)
      | (with_reducible refine LeO.ite ?_ ?_)
      | (with_reducible refine LeO.bind ?_ (fun _ => ?_))
      | exact ih0 _ _ _ _ _ _ _ _
      | exact ih1 _
      | exact ih2 _ _ _ _ _ _ _ _ _ _ _ _ _ _
      | exact impl_HashOf.mono _ _
      | exact impl_MovedKeys.mono _ _ _ _
      | exact impl_RankedOf.mono _ _ _
      | exact impl_RendezvousOf.mono _ _ _
      | exact laws_numberOf.mono _ _
      | exact laws_sameInts.mono _ _ _
      | exact laws_sameTexts.mono _ _ _
      | exact spec_DrawMovedKeys.mono _ _
      | exact spec_DrawRankedOf.mono _ _
      | exact spec_HashOf.mono _ _
      | exact spec_MovedKeys.mono _ _ _ _
      | exact spec_RankedOf.mono _ _ _
      | exact spec_RendezvousOf.mono _ _ _
      | exact LeO.none _
      | refine LeO.ite ?_ ?_
      | refine LeO.bind ?_ (fun _ => ?_)
def laws_FnRendezvous.T12 : Bool × List (List Nat × List Nat) := (true, [([], []), ([], []), ([], []), ([1, 2], [1, 2]), ([0, 3], [0, 3]), ([], []), ([], []), ([6], [6]), ([5, 7], [5, 7]), ([4, 8, 4], [4, 8]), ([9, 9, 0, 1, 2, 3, 4, 5, 6, 7, 8, 9], [9])])
def laws_FnRendezvous.B12 : List Nat := [0, 0, 0, 6, 15, 0, 0, 64, 224, 511, 1023]
theorem laws_FnRendezvous.tab12 : rtab .any (opsOf Tryd.f6 12) = laws_FnRendezvous.T12 := by kernel_rfl
theorem laws_FnRendezvous.bits12 : waitsOk laws_FnRendezvous.T12.2 laws_FnRendezvous.B12 = true := by kernel_rfl
def laws_FnRendezvous.T24 : Bool × List (List Nat × List Nat) := (true, [([], []), ([0], [0]), ([1], [1]), ([2], [2]), ([2], [2]), ([4, 2], [2, 4]), ([5, 2], [2, 5]), ([3, 6, 2], [2, 3, 6]), ([2, 7], [2, 7]), ([8, 2], [8]), ([9], [9]), ([10, 9], [9, 10]), ([9, 11], [9, 11]), ([12, 9], [12]), ([13], [13]), ([13], [13]), ([15, 13], [13, 15]), ([14, 16, 13], [13, 14, 16]), ([13, 17], [13, 17]), ([18, 13], [18]), ([19], [19]), ([20, 19], [19, 20]), ([19, 21], [19, 21]), ([22, 19], [22]), ([23], [23]), ([24, 23], [23, 24]), ([25, 23], [23, 25]), ([23], [23]), ([27, 23], [23, 27]), ([28, 23], [23, 28]), ([23], [23]), ([23], [23]), ([30, 31, 23], [23, 30, 31]), ([32, 23], [23, 32]), ([29, 33, 23], [23, 29, 33]), ([26, 34, 23], [23, 26, 34]), ([23, 35], [23, 35])])
def laws_FnRendezvous.B24 : List Nat := [0, 1, 3, 7, 7, 23, 55, 127, 255, 511, 1023, 2047, 4095, 8191, 16383, 16383, 49151, 131071, 262143, 524287, 1048575, 2097151, 4194303, 8388607, 16777215, 33554431, 67108863, 16777215, 150994943, 419430399, 16777215, 16777215, 3238002687, 7532969983, 17062428671, 34359738367, 68719476735]
theorem laws_FnRendezvous.tab24 : rtab .any (opsOf Tryd.f6 24) = laws_FnRendezvous.T24 := by kernel_rfl
theorem laws_FnRendezvous.bits24 : waitsOk laws_FnRendezvous.T24.2 laws_FnRendezvous.B24 = true := by kernel_rfl
set_option maxHeartbeats 8000000 in
set_option maxRecDepth 100000 in
theorem laws_FnRendezvous.calls (k : Nat) (A0 : Option Addr) (c0 : Nat) (l0 : List Int) (A1 : Option Addr) (c1 : Nat) (l1 : List Int) (r : Bool) (w : World) (hr0 : Kd.C (Kd.int .u8) w A0 l0.length l0) (hc0 : l0.length ≤ c0) (hr1 : Kd.C (Kd.int .u8) w A1 l1.length l1) (hc1 : l1.length ≤ c1) (h : laws_FnRendezvous.f k l0 l1 = some r) :
    Calls Tryd.prog 6 #[.slice A0 l0.length c0, .slice A1 l1.length c1] w fun e w' => e = .returned (.bool r) ∧ Below w.heap.size w w' := by
  have HR0 := Aside0.mk hr0
  have HC0 := Aside0.mk hc0
  clear hr0 hc0
  have HR1 := Aside0.mk hr1
  have HC1 := Aside0.mk hc1
  clear hr1 hc1
  have HB := Aside0.mk (Below.refl w.heap.size w)
  have H : (if (wrap64 ((l0.length : Int) + (l1.length : Int))) > 1048576 then (some true) else ((spec_DrawRankedOf.f k l0).bind fun bt315 => ((impl_RankedOf.f k bt315.1 bt315.2).bind fun bt319 => ((spec_RankedOf.f k bt315.1 bt315.2).bind fun bt323 => ((impl_RendezvousOf.f k bt315.1 bt315.2).bind fun bt327 => ((spec_RendezvousOf.f k bt315.1 bt315.2).bind fun bt329 => (if (bt319.2 != bt323.2) = true then (laws_FnRendezvous.j0 k l1 bt315.1 bt315.2 bt319.1 bt319.2 bt327.1 bt327.2 true) else ((laws_sameInts.f k bt319.1 bt323.1).bind fun t331 => (if t331 = true then (if (bt327.2 != bt329.2) = true then (laws_FnRendezvous.j0 k l1 bt315.1 bt315.2 bt319.1 bt319.2 bt327.1 bt327.2 true) else (if bt327.1 = bt329.1 then ((impl_HashOf.f k bt315.2).bind fun t332 => ((spec_HashOf.f k bt315.2).bind fun t333 => (laws_FnRendezvous.j0 k l1 bt315.1 bt315.2 bt319.1 bt319.2 bt327.1 bt327.2 (t332 != t333)))) else (laws_FnRendezvous.j0 k l1 bt315.1 bt315.2 bt319.1 bt319.2 bt327.1 bt327.2 true))) else (laws_FnRendezvous.j0 k l1 bt315.1 bt315.2 bt319.1 bt319.2 bt327.1 bt327.2 true)))))))))) = some r := h
  clear h
  by_cases c3 : (wrap64 ((l0.length : Int) + (l1.length : Int))) > 1048576
  · rw [if_pos c3] at H
    have c3b0 : decide (1048576 < (wrap64 ((l0.length : Int) + (l1.length : Int)))) = true := decide_eq_true c3
    clear c3
    obtain rfl := Option.some.inj H
    go_enter Tryd.func6, Tryd.ntmps6
    go_wp2
    go_ret
    exact ⟨by first | rfl | (simp [errW_none, errW_some] <;> rfl) | (simp [*, errW_none, errW_some] <;> rfl), by repeat (first | (with_reducible first | exact HB.out | apply below_alloc | apply pw_below_drewN | apply below_drew1) | exact HB.out)⟩
  · rw [if_neg c3] at H
    have c3b0 : decide (1048576 < (wrap64 ((l0.length : Int) + (l1.length : Int)))) = false := decide_eq_false c3
    clear c3
    replace H := Option.bind_eq_some_iff.mp H
    obtain ⟨⟨t315, t316⟩, A40, H⟩ := H
    replace H : ((impl_RankedOf.f k t315 t316).bind fun bt319 => ((spec_RankedOf.f k t315 t316).bind fun bt323 => ((impl_RendezvousOf.f k t315 t316).bind fun bt327 => ((spec_RendezvousOf.f k t315 t316).bind fun bt329 => (if (bt319.2 != bt323.2) = true then (laws_FnRendezvous.j0 k l1 t315 t316 bt319.1 bt319.2 bt327.1 bt327.2 true) else ((laws_sameInts.f k bt319.1 bt323.1).bind fun t331 => (if t331 = true then (if (bt327.2 != bt329.2) = true then (laws_FnRendezvous.j0 k l1 t315 t316 bt319.1 bt319.2 bt327.1 bt327.2 true) else (if bt327.1 = bt329.1 then ((impl_HashOf.f k t316).bind fun t332 => ((spec_HashOf.f k t316).bind fun t333 => (laws_FnRendezvous.j0 k l1 t315 t316 bt319.1 bt319.2 bt327.1 bt327.2 (t332 != t333)))) else (laws_FnRendezvous.j0 k l1 t315 t316 bt319.1 bt319.2 bt327.1 bt327.2 true))) else (laws_FnRendezvous.j0 k l1 t315 t316 bt319.1 bt319.2 bt327.1 bt327.2 true)))))))) = some r := H
    have A4 := Aside0.mk A40
    clear A40
    replace H := Option.bind_eq_some_iff.mp H
    obtain ⟨⟨t319, t320⟩, A50, H⟩ := H
    replace H : ((spec_RankedOf.f k t315 t316).bind fun bt323 => ((impl_RendezvousOf.f k t315 t316).bind fun bt327 => ((spec_RendezvousOf.f k t315 t316).bind fun bt329 => (if (t320 != bt323.2) = true then (laws_FnRendezvous.j0 k l1 t315 t316 t319 t320 bt327.1 bt327.2 true) else ((laws_sameInts.f k t319 bt323.1).bind fun t331 => (if t331 = true then (if (bt327.2 != bt329.2) = true then (laws_FnRendezvous.j0 k l1 t315 t316 t319 t320 bt327.1 bt327.2 true) else (if bt327.1 = bt329.1 then ((impl_HashOf.f k t316).bind fun t332 => ((spec_HashOf.f k t316).bind fun t333 => (laws_FnRendezvous.j0 k l1 t315 t316 t319 t320 bt327.1 bt327.2 (t332 != t333)))) else (laws_FnRendezvous.j0 k l1 t315 t316 t319 t320 bt327.1 bt327.2 true))) else (laws_FnRendezvous.j0 k l1 t315 t316 t319 t320 bt327.1 bt327.2 true))))))) = some r := H
    have A5 := Aside0.mk A50
    clear A50
    replace H := Option.bind_eq_some_iff.mp H
    obtain ⟨⟨t323, t324⟩, A60, H⟩ := H
    replace H : ((impl_RendezvousOf.f k t315 t316).bind fun bt327 => ((spec_RendezvousOf.f k t315 t316).bind fun bt329 => (if (t320 != t324) = true then (laws_FnRendezvous.j0 k l1 t315 t316 t319 t320 bt327.1 bt327.2 true) else ((laws_sameInts.f k t319 t323).bind fun t331 => (if t331 = true then (if (bt327.2 != bt329.2) = true then (laws_FnRendezvous.j0 k l1 t315 t316 t319 t320 bt327.1 bt327.2 true) else (if bt327.1 = bt329.1 then ((impl_HashOf.f k t316).bind fun t332 => ((spec_HashOf.f k t316).bind fun t333 => (laws_FnRendezvous.j0 k l1 t315 t316 t319 t320 bt327.1 bt327.2 (t332 != t333)))) else (laws_FnRendezvous.j0 k l1 t315 t316 t319 t320 bt327.1 bt327.2 true))) else (laws_FnRendezvous.j0 k l1 t315 t316 t319 t320 bt327.1 bt327.2 true)))))) = some r := H
    have A6 := Aside0.mk A60
    clear A60
    replace H := Option.bind_eq_some_iff.mp H
    obtain ⟨⟨t327, t328⟩, A70, H⟩ := H
    replace H : ((spec_RendezvousOf.f k t315 t316).bind fun bt329 => (if (t320 != t324) = true then (laws_FnRendezvous.j0 k l1 t315 t316 t319 t320 t327 t328 true) else ((laws_sameInts.f k t319 t323).bind fun t331 => (if t331 = true then (if (t328 != bt329.2) = true then (laws_FnRendezvous.j0 k l1 t315 t316 t319 t320 t327 t328 true) else (if t327 = bt329.1 then ((impl_HashOf.f k t316).bind fun t332 => ((spec_HashOf.f k t316).bind fun t333 => (laws_FnRendezvous.j0 k l1 t315 t316 t319 t320 t327 t328 (t332 != t333)))) else (laws_FnRendezvous.j0 k l1 t315 t316 t319 t320 t327 t328 true))) else (laws_FnRendezvous.j0 k l1 t315 t316 t319 t320 t327 t328 true))))) = some r := H
    have A7 := Aside0.mk A70
    clear A70
    replace H := Option.bind_eq_some_iff.mp H
    obtain ⟨⟨t329, t330⟩, A80, H⟩ := H
    replace H : (if (t320 != t324) = true then (laws_FnRendezvous.j0 k l1 t315 t316 t319 t320 t327 t328 true) else ((laws_sameInts.f k t319 t323).bind fun t331 => (if t331 = true then (if (t328 != t330) = true then (laws_FnRendezvous.j0 k l1 t315 t316 t319 t320 t327 t328 true) else (if t327 = t329 then ((impl_HashOf.f k t316).bind fun t332 => ((spec_HashOf.f k t316).bind fun t333 => (laws_FnRendezvous.j0 k l1 t315 t316 t319 t320 t327 t328 (t332 != t333)))) else (laws_FnRendezvous.j0 k l1 t315 t316 t319 t320 t327 t328 true))) else (laws_FnRendezvous.j0 k l1 t315 t316 t319 t320 t327 t328 true)))) = some r := H
    have A8 := Aside0.mk A80
    clear A80
    have HC9 := Aside0.mk H
    clear H
    go_enter Tryd.func6, Tryd.ntmps6
    go_upto_region 8 with (first | ((with_reducible refine gate_callee (f := 24) rfl ?_); refine goesL_ (some 41) rfl rfl Tryd.func24 (by kernel_rfl) rfl #[.slice A0 l0.length c0] rfl (by (try simp only [List.map_toArray, List.map_cons, List.map_nil]); first | done | rfl | (simp only [List.length_drop, List.length_take]; rfl)) ?_; (with_reducible refine (spec_DrawRankedOf.calls k _ _ l0 t315 t316 _ ?side1 ?side2 A4.out).mono ?_); (case side1 => repeat (first | exact HR0.out | (with_reducible refine Kd.C_alloc ?_ _) | (with_reducible refine Kd.C_drewN ?_ _) | (with_reducible refine Kd.C_drew ?_))); (case side2 => exact HC0.out); rintro e w10 ⟨v317, rfl, ho0, hb⟩; refine ⟨_, rfl, ?_⟩; have n0_ := Aside0.mk (Kd.R_lower ho0 (below_size (by repeat (first | (with_reducible first | exact HB.out | apply below_alloc | apply pw_below_drewN | apply below_drew1) | exact HB.out)))); have n1_ := Aside0.mk (below_step (by repeat (first | (with_reducible first | exact HB.out | apply below_alloc | apply pw_below_drewN | apply below_drew1) | exact HB.out)) hb); clear HB; have HO318 := n0_; have HB := n1_; clear n0_ n1_; (try clear hb); (try clear hb2); (try clear hk); (try clear hi); (try clear ho0); obtain ⟨Ao11, co11, eo11⟩ := Kd.R_slice HO318.out; subst eo11) | ((with_reducible refine gate_callee (f := 14) rfl ?_); refine goesL_ (some 47) rfl rfl Tryd.func14 (by kernel_rfl) rfl #[.slice Ao11 t315.length co11, .string t316] rfl (by (try simp only [List.map_toArray, List.map_cons, List.map_nil]); first | done | rfl | (simp only [List.length_drop, List.length_take]; rfl)) ?_; (with_reducible refine (impl_RankedOf.calls k _ _ t315 t316 t319 t320 _ ?side1 ?side2 A5.out).mono ?_); (case side1 => repeat (first | exact (Kd.R_reads' HO318.out).2.2 | (with_reducible refine Kd.C_alloc ?_ _) | (with_reducible refine Kd.C_drewN ?_ _) | (with_reducible refine Kd.C_drew ?_))); (case side2 => exact (Kd.R_reads' HO318.out).2.1); rintro e w12 ⟨v321, rfl, ho0, hb⟩; refine ⟨_, rfl, ?_⟩; have n0_ := Aside0.mk (Kd.R_elder' (by (with_reducible repeat (first | apply Kd.R_alloc | apply Kd.R_drewN | apply Kd.R_drew)); exact HO318.out) (Kd.R_base ho0) hb); have n1_ := Aside0.mk (Kd.R_lower (Kd.R_new' ho0 (Kd.R_lt (by (with_reducible repeat (first | apply Kd.R_alloc | apply Kd.R_drewN | apply Kd.R_drew)); exact HO318.out))) (below_size (by repeat (first | (with_reducible first | exact HB.out | apply below_alloc | apply pw_below_drewN | apply below_drew1) | exact HB.out)))); have n2_ := Aside0.mk (below_step (by repeat (first | (with_reducible first | exact HB.out | apply below_alloc | apply pw_below_drewN | apply below_drew1) | exact HB.out)) hb); clear HO318; clear HB; have HO318 := n0_; have HO322 := n1_; have HB := n2_; clear n0_ n1_ n2_; (try clear hb); (try clear hb2); (try clear hk); (try clear hi); (try clear ho0)) | ((with_reducible refine gate_callee (f := 13) rfl ?_); refine goesL_ (some 53) rfl rfl Tryd.func13 (by kernel_rfl) rfl #[.slice Ao11 t315.length co11, .string t316] rfl (by (try simp only [List.map_toArray, List.map_cons, List.map_nil]); first | done | rfl | (simp only [List.length_drop, List.length_take]; rfl)) ?_; (with_reducible refine (spec_RankedOf.calls k _ _ t315 t316 t323 t324 _ ?side1 ?side2 A6.out).mono ?_); (case side1 => repeat (first | exact (Kd.R_reads' HO318.out).2.2 | (with_reducible refine Kd.C_alloc ?_ _) | (with_reducible refine Kd.C_drewN ?_ _) | (with_reducible refine Kd.C_drew ?_))); (case side2 => exact (Kd.R_reads' HO318.out).2.1); rintro e w13 ⟨v325, rfl, ho0, hb⟩; refine ⟨_, rfl, ?_⟩; have n0_ := Aside0.mk (Kd.R_elder' (by (with_reducible repeat (first | apply Kd.R_alloc | apply Kd.R_drewN | apply Kd.R_drew)); exact HO318.out) (Kd.R_base ho0) hb); have n1_ := Aside0.mk (Kd.R_elder' (by (with_reducible repeat (first | apply Kd.R_alloc | apply Kd.R_drewN | apply Kd.R_drew)); exact HO322.out) (Kd.R_base ho0) hb); have n2_ := Aside0.mk (Kd.R_lower (Kd.R_new' (Kd.R_new' ho0 (Kd.R_lt (by (with_reducible repeat (first | apply Kd.R_alloc | apply Kd.R_drewN | apply Kd.R_drew)); exact HO318.out))) (Kd.R_lt (by (with_reducible repeat (first | apply Kd.R_alloc | apply Kd.R_drewN | apply Kd.R_drew)); exact HO322.out))) (below_size (by repeat (first | (with_reducible first | exact HB.out | apply below_alloc | apply pw_below_drewN | apply below_drew1) | exact HB.out)))); have n3_ := Aside0.mk (below_step (by repeat (first | (with_reducible first | exact HB.out | apply below_alloc | apply pw_below_drewN | apply below_drew1) | exact HB.out)) hb); clear HO318; clear HO322; clear HB; have HO318 := n0_; have HO322 := n1_; have HO326 := n2_; have HB := n3_; clear n0_ n1_ n2_ n3_; (try clear hb); (try clear hb2); (try clear hk); (try clear hi); (try clear ho0)) | ((with_reducible refine gate_callee (f := 11) rfl ?_); refine goesL_ (some 59) rfl rfl Tryd.func11 (by kernel_rfl) rfl #[.slice Ao11 t315.length co11, .string t316] rfl (by (try simp only [List.map_toArray, List.map_cons, List.map_nil]); first | done | rfl | (simp only [List.length_drop, List.length_take]; rfl)) ?_; (with_reducible refine (impl_RendezvousOf.calls k _ _ t315 t316 t327 t328 _ ?side1 ?side2 A7.out).mono ?_); (case side1 => repeat (first | exact (Kd.R_reads' HO318.out).2.2 | (with_reducible refine Kd.C_alloc ?_ _) | (with_reducible refine Kd.C_drewN ?_ _) | (with_reducible refine Kd.C_drew ?_))); (case side2 => exact (Kd.R_reads' HO318.out).2.1); rintro e w14 ⟨rfl, hb⟩; refine ⟨_, rfl, ?_⟩; have n0_ := Aside0.mk (Kd.R_below (by (with_reducible repeat (first | apply Kd.R_alloc | apply Kd.R_drewN | apply Kd.R_drew)); exact HO318.out) hb); have n1_ := Aside0.mk (Kd.R_below (by (with_reducible repeat (first | apply Kd.R_alloc | apply Kd.R_drewN | apply Kd.R_drew)); exact HO322.out) hb); have n2_ := Aside0.mk (Kd.R_below (by (with_reducible repeat (first | apply Kd.R_alloc | apply Kd.R_drewN | apply Kd.R_drew)); exact HO326.out) hb); have n3_ := Aside0.mk (below_step (by repeat (first | (with_reducible first | exact HB.out | apply below_alloc | apply pw_below_drewN | apply below_drew1) | exact HB.out)) hb); clear HO318; clear HO322; clear HO326; clear HB; have HO318 := n0_; have HO322 := n1_; have HO326 := n2_; have HB := n3_; clear n0_ n1_ n2_ n3_; (try clear hb); (try clear hb2); (try clear hk); (try clear hi)) | ((with_reducible refine gate_callee (f := 9) rfl ?_); refine goesL_ (some 65) rfl rfl Tryd.func9 (by kernel_rfl) rfl #[.slice Ao11 t315.length co11, .string t316] rfl (by (try simp only [List.map_toArray, List.map_cons, List.map_nil]); first | done | rfl | (simp only [List.length_drop, List.length_take]; rfl)) ?_; (with_reducible refine (spec_RendezvousOf.calls k _ _ t315 t316 t329 t330 _ ?side1 ?side2 A8.out).mono ?_); (case side1 => repeat (first | exact (Kd.R_reads' HO318.out).2.2 | (with_reducible refine Kd.C_alloc ?_ _) | (with_reducible refine Kd.C_drewN ?_ _) | (with_reducible refine Kd.C_drew ?_))); (case side2 => exact (Kd.R_reads' HO318.out).2.1); rintro e w15 ⟨rfl, hb⟩; refine ⟨_, rfl, ?_⟩; have n0_ := Aside0.mk (Kd.R_below (by (with_reducible repeat (first | apply Kd.R_alloc | apply Kd.R_drewN | apply Kd.R_drew)); exact HO318.out) hb); have n1_ := Aside0.mk (Kd.R_below (by (with_reducible repeat (first | apply Kd.R_alloc | apply Kd.R_drewN | apply Kd.R_drew)); exact HO322.out) hb); have n2_ := Aside0.mk (Kd.R_below (by (with_reducible repeat (first | apply Kd.R_alloc | apply Kd.R_drewN | apply Kd.R_drew)); exact HO326.out) hb); have n3_ := Aside0.mk (below_step (by repeat (first | (with_reducible first | exact HB.out | apply below_alloc | apply pw_below_drewN | apply below_drew1) | exact HB.out)) hb); clear HO318; clear HO322; clear HO326; clear HB; have HO318 := n0_; have HO322 := n1_; have HO326 := n2_; have HB := n3_; clear n0_ n1_ n2_ n3_; (try clear hb); (try clear hb2); (try clear hk); (try clear hi)))
    (try simp only [Act.put, List.setIfInBounds_toArray, List.set_cons_zero, List.set_cons_succ])
    go_cut [93] (fun v93 wc => ∃ (kq : Nat) (x93_8 : Bool), v93 = .bool x93_8 ∧ Aside0 (laws_FnRendezvous.j0 kq l1 t315 t316 t319 t320 t327 t328 x93_8 = some r) ∧ Aside0 (kq ≤ k) ∧ Aside0 (Kd.R (Kd.int .i64) 3 wc w.heap.size (fun k_ => some k_ ≠ (v321 : Value).ownBlock) (.slice Ao11 t315.length co11) t315) ∧ Aside0 (Kd.R (Kd.int .i64) 3 wc w.heap.size (fun k_ => some k_ ≠ ((.slice Ao11 t315.length co11) : Value).ownBlock) v321 t319) ∧ Aside0 (Below w.heap.size w wc))
    case first =>
      have H := HC9.out
      clear HC9
      by_cases c16 : (t320 != t324) = true
      · rw [if_pos c16] at H
        have c16b0 : (t320 != t324) = true := c16
        (try (have c16b1 : decide (t320 = t324) = false := by simpa using c16))
        (try (have c16b2 : (t320 == t324) = false := by simpa using c16))
        (try (have c16b3 : ¬ (t320 = t324) := by simpa using c16))
        clear c16
        (first | rw [c16b0] | (simp only [i64_w, i32_w]; rw [c16b0]) | skip)
        have H' := Aside0.mk H
        clear H
        go_wp2
        go_meet
        case rel => exact ⟨_, (true), (by first | rfl | (simp; done) | (simp [*]; done)), H', ⟨by first | omega | exact Nat.le_refl _⟩, ⟨by (with_reducible repeat (first | apply Kd.R_alloc | apply Kd.R_drewN | apply Kd.R_drew)); exact Kd.R_mono HO318.out (fun _ hk => hk.1.2)⟩, ⟨by (with_reducible repeat (first | apply Kd.R_alloc | apply Kd.R_drewN | apply Kd.R_drew)); exact Kd.R_mono HO322.out (fun _ hk => hk.1.2)⟩, ⟨by repeat (first | (with_reducible first | exact HB.out | apply below_alloc | apply pw_below_drewN | apply below_drew1) | exact HB.out)⟩⟩
      · rw [if_neg c16] at H
        have c16b0 : (t320 != t324) = false := by simpa using c16
        (try (have c16b1 : decide (t320 = t324) = true := by simpa using c16))
        (try (have c16b2 : (t320 == t324) = true := by simpa using c16))
        clear c16
        (first | rw [c16b0] | (simp only [i64_w, i32_w]; rw [c16b0]) | skip)
        replace H := Option.bind_eq_some_iff.mp H
        obtain ⟨t331, A170, H⟩ := H
        replace H : (if t331 = true then (if (t328 != t330) = true then (laws_FnRendezvous.j0 k l1 t315 t316 t319 t320 t327 t328 true) else (if t327 = t329 then ((impl_HashOf.f k t316).bind fun t332 => ((spec_HashOf.f k t316).bind fun t333 => (laws_FnRendezvous.j0 k l1 t315 t316 t319 t320 t327 t328 (t332 != t333)))) else (laws_FnRendezvous.j0 k l1 t315 t316 t319 t320 t327 t328 true))) else (laws_FnRendezvous.j0 k l1 t315 t316 t319 t320 t327 t328 true)) = some r := H
        have A17 := Aside0.mk A170
        clear A170
        by_cases c18 : t331 = true
        · subst c18
          have H1 : (if (t328 != t330) = true then (laws_FnRendezvous.j0 k l1 t315 t316 t319 t320 t327 t328 true) else (if t327 = t329 then ((impl_HashOf.f k t316).bind fun t332 => ((spec_HashOf.f k t316).bind fun t333 => (laws_FnRendezvous.j0 k l1 t315 t316 t319 t320 t327 t328 (t332 != t333)))) else (laws_FnRendezvous.j0 k l1 t315 t316 t319 t320 t327 t328 true))) = some r := by rw [if_pos rfl] at H; exact H
          clear H
          have H := H1
          clear H1
          by_cases c19 : (t328 != t330) = true
          · rw [if_pos c19] at H
            have c19b0 : (t328 != t330) = true := c19
            (try (have c19b1 : decide (t328 = t330) = false := by simpa using c19))
            (try (have c19b2 : (t328 == t330) = false := by simpa using c19))
            (try (have c19b3 : ¬ (t328 = t330) := by simpa using c19))
            clear c19
            have H' := Aside0.mk H
            clear H
            obtain ⟨Ao20, co20, eo20⟩ := Kd.R_slice HO322.out
            subst eo20
            obtain ⟨Ao21, co21, eo21⟩ := Kd.R_slice HO326.out
            subst eo21
            go_wp2_with (first | (go_at_call 25; (with_reducible refine (laws_sameInts.calls k _ _ t319 _ _ t323 true _ ?side1 ?side2 ?side3 ?side4 A17.out).mono ?_); (case side1 => repeat (first | exact (Kd.R_reads' HO322.out).2.2 | (with_reducible refine Kd.C_alloc ?_ _) | (with_reducible refine Kd.C_drewN ?_ _) | (with_reducible refine Kd.C_drew ?_))); (case side2 => exact (Kd.R_reads' HO322.out).2.1); (case side3 => repeat (first | exact (Kd.R_reads' HO326.out).2.2 | (with_reducible refine Kd.C_alloc ?_ _) | (with_reducible refine Kd.C_drewN ?_ _) | (with_reducible refine Kd.C_drew ?_))); (case side4 => exact (Kd.R_reads' HO326.out).2.1); rintro e w' ⟨rfl, ⟨nd, rfl⟩⟩))
            go_meet
            case rel => exact ⟨_, (true), (by first | rfl | (simp; done) | (simp [*]; done)), H', ⟨by first | omega | exact Nat.le_refl _⟩, ⟨by (with_reducible repeat (first | apply Kd.R_alloc | apply Kd.R_drewN | apply Kd.R_drew)); exact Kd.R_mono HO318.out (fun _ hk => hk.1.2)⟩, ⟨by (with_reducible repeat (first | apply Kd.R_alloc | apply Kd.R_drewN | apply Kd.R_drew)); exact Kd.R_mono HO322.out (fun _ hk => hk.1.2)⟩, ⟨by repeat (first | (with_reducible first | exact HB.out | apply below_alloc | apply pw_below_drewN | apply below_drew1) | exact HB.out)⟩⟩
          · rw [if_neg c19] at H
            have c19b0 : (t328 != t330) = false := by simpa using c19
            (try (have c19b1 : decide (t328 = t330) = true := by simpa using c19))
            (try (have c19b2 : (t328 == t330) = true := by simpa using c19))
            clear c19
            by_cases c22 : t327 = t329
            · rw [if_pos c22] at H
              have c22b0 : (t327 == t329) = true := beq_iff_eq.mpr c22
              have c22b1 : (t327 != t329) = false := bne_eq_false_iff_eq.mpr c22
              clear c22
              replace H := Option.bind_eq_some_iff.mp H
              obtain ⟨t332, A230, H⟩ := H
              replace H : ((spec_HashOf.f k t316).bind fun t333 => (laws_FnRendezvous.j0 k l1 t315 t316 t319 t320 t327 t328 (t332 != t333))) = some r := H
              have A23 := Aside0.mk A230
              clear A230
              replace H := Option.bind_eq_some_iff.mp H
              obtain ⟨t333, A240, H⟩ := H
              replace H : (laws_FnRendezvous.j0 k l1 t315 t316 t319 t320 t327 t328 (t332 != t333)) = some r := H
              have A24 := Aside0.mk A240
              clear A240
              have H' := Aside0.mk H
              clear H
              obtain ⟨Ao25, co25, eo25⟩ := Kd.R_slice HO322.out
              subst eo25
              obtain ⟨Ao26, co26, eo26⟩ := Kd.R_slice HO326.out
              subst eo26
              go_wp2_with (first | (go_at_call 25; (with_reducible refine (laws_sameInts.calls k _ _ t319 _ _ t323 true _ ?side1 ?side2 ?side3 ?side4 A17.out).mono ?_); (case side1 => repeat (first | exact (Kd.R_reads' HO322.out).2.2 | (with_reducible refine Kd.C_alloc ?_ _) | (with_reducible refine Kd.C_drewN ?_ _) | (with_reducible refine Kd.C_drew ?_))); (case side2 => exact (Kd.R_reads' HO322.out).2.1); (case side3 => repeat (first | exact (Kd.R_reads' HO326.out).2.2 | (with_reducible refine Kd.C_alloc ?_ _) | (with_reducible refine Kd.C_drewN ?_ _) | (with_reducible refine Kd.C_drew ?_))); (case side4 => exact (Kd.R_reads' HO326.out).2.1); rintro e w' ⟨rfl, ⟨nd, rfl⟩⟩) | (go_at_call 26; (with_reducible refine (impl_HashOf.calls k t316 t332 _ A23.out).mono ?_); rintro e w' ⟨rfl, ⟨nd, rfl⟩⟩) | (go_at_call 27; (with_reducible refine (spec_HashOf.calls k t316 t333 _ A24.out).mono ?_); rintro e w' ⟨rfl, ⟨nd, rfl⟩⟩))
              go_meet
              case rel => exact ⟨_, ((t332 != t333)), (by first | rfl | (simp; done) | (simp [*]; done)), H', ⟨by first | omega | exact Nat.le_refl _⟩, ⟨by (with_reducible repeat (first | apply Kd.R_alloc | apply Kd.R_drewN | apply Kd.R_drew)); exact Kd.R_mono HO318.out (fun _ hk => hk.1.2)⟩, ⟨by (with_reducible repeat (first | apply Kd.R_alloc | apply Kd.R_drewN | apply Kd.R_drew)); exact Kd.R_mono HO322.out (fun _ hk => hk.1.2)⟩, ⟨by repeat (first | (with_reducible first | exact HB.out | apply below_alloc | apply pw_below_drewN | apply below_drew1) | exact HB.out)⟩⟩
            · rw [if_neg c22] at H
              have c22b0 : (t327 == t329) = false := beq_eq_false_iff_ne.mpr c22
              have c22b1 : (t327 != t329) = true := bne_iff_ne.mpr c22
              have H' := Aside0.mk H
              clear H
              obtain ⟨Ao27, co27, eo27⟩ := Kd.R_slice HO322.out
              subst eo27
              obtain ⟨Ao28, co28, eo28⟩ := Kd.R_slice HO326.out
              subst eo28
              go_wp2_with (first | (go_at_call 25; (with_reducible refine (laws_sameInts.calls k _ _ t319 _ _ t323 true _ ?side1 ?side2 ?side3 ?side4 A17.out).mono ?_); (case side1 => repeat (first | exact (Kd.R_reads' HO322.out).2.2 | (with_reducible refine Kd.C_alloc ?_ _) | (with_reducible refine Kd.C_drewN ?_ _) | (with_reducible refine Kd.C_drew ?_))); (case side2 => exact (Kd.R_reads' HO322.out).2.1); (case side3 => repeat (first | exact (Kd.R_reads' HO326.out).2.2 | (with_reducible refine Kd.C_alloc ?_ _) | (with_reducible refine Kd.C_drewN ?_ _) | (with_reducible refine Kd.C_drew ?_))); (case side4 => exact (Kd.R_reads' HO326.out).2.1); rintro e w' ⟨rfl, ⟨nd, rfl⟩⟩))
              go_meet
              case rel => exact ⟨_, (true), (by first | rfl | (simp; done) | (simp [*]; done)), H', ⟨by first | omega | exact Nat.le_refl _⟩, ⟨by (with_reducible repeat (first | apply Kd.R_alloc | apply Kd.R_drewN | apply Kd.R_drew)); exact Kd.R_mono HO318.out (fun _ hk => hk.1.2)⟩, ⟨by (with_reducible repeat (first | apply Kd.R_alloc | apply Kd.R_drewN | apply Kd.R_drew)); exact Kd.R_mono HO322.out (fun _ hk => hk.1.2)⟩, ⟨by repeat (first | (with_reducible first | exact HB.out | apply below_alloc | apply pw_below_drewN | apply below_drew1) | exact HB.out)⟩⟩
        · replace c18 := Bool.eq_false_iff.mpr c18
          subst c18
          have H1 : (laws_FnRendezvous.j0 k l1 t315 t316 t319 t320 t327 t328 true) = some r := by rw [if_neg (show ¬ (false = true) by decide)] at H; exact H
          clear H
          have H := H1
          clear H1
          have H' := Aside0.mk H
          clear H
          obtain ⟨Ao29, co29, eo29⟩ := Kd.R_slice HO322.out
          subst eo29
          obtain ⟨Ao30, co30, eo30⟩ := Kd.R_slice HO326.out
          subst eo30
          go_wp2_with (first | (go_at_call 25; (with_reducible refine (laws_sameInts.calls k _ _ t319 _ _ t323 false _ ?side1 ?side2 ?side3 ?side4 A17.out).mono ?_); (case side1 => repeat (first | exact (Kd.R_reads' HO322.out).2.2 | (with_reducible refine Kd.C_alloc ?_ _) | (with_reducible refine Kd.C_drewN ?_ _) | (with_reducible refine Kd.C_drew ?_))); (case side2 => exact (Kd.R_reads' HO322.out).2.1); (case side3 => repeat (first | exact (Kd.R_reads' HO326.out).2.2 | (with_reducible refine Kd.C_alloc ?_ _) | (with_reducible refine Kd.C_drewN ?_ _) | (with_reducible refine Kd.C_drew ?_))); (case side4 => exact (Kd.R_reads' HO326.out).2.1); rintro e w' ⟨rfl, ⟨nd, rfl⟩⟩))
          go_meet
          case rel => exact ⟨_, (true), (by first | rfl | (simp; done) | (simp [*]; done)), H', ⟨by first | omega | exact Nat.le_refl _⟩, ⟨by (with_reducible repeat (first | apply Kd.R_alloc | apply Kd.R_drewN | apply Kd.R_drew)); exact Kd.R_mono HO318.out (fun _ hk => hk.1.2)⟩, ⟨by (with_reducible repeat (first | apply Kd.R_alloc | apply Kd.R_drewN | apply Kd.R_drew)); exact Kd.R_mono HO322.out (fun _ hk => hk.1.2)⟩, ⟨by repeat (first | (with_reducible first | exact HB.out | apply below_alloc | apply pw_below_drewN | apply below_drew1) | exact HB.out)⟩⟩
    case rest =>
      clear HC9
      try clear c1
      try clear c2
      try clear p2
      try clear c3
      try clear c3b0
      try clear c6
      try clear p6
      try clear c9
      try clear c11
      try clear c13
      try clear c14
      try clear c16
      try clear c16b0
      try clear c16b1
      try clear c16b2
      try clear c18
      try clear c19
      try clear c19b0
      try clear c19b1
      try clear c19b2
      try clear c22
      try clear c22b0
      try clear c22b1
      try clear c24
      obtain ⟨kq, x93_8, rfl, HA, HJ8, HO_5, HO_7, HB⟩ := hcut
      cases kq with
      | zero => exact absurd HA.out (by simp [laws_FnRendezvous.j0])
      | succ kj8 =>
        have H := HA.out
        clear HA
        simp only [laws_FnRendezvous.j0] at H
        by_cases c31 : x93_8 = true
        · subst c31
          have H1 : (none) = some r := by rw [if_pos rfl] at H; exact H
          clear H
          have H := H1
          clear H1
          exact absurd H (by simp)
        · replace c31 := Bool.eq_false_iff.mpr c31
          subst c31
          have H1 : (if t320 = true then (if (t315.length : Int) > 1 then ((laws_numberOf.f kj8 l1).bind fun t334 => (if (t315.length : Int) = 0 then (none) else ((some (([] : List Int) : List Int)).bind fun y335 => (if 0 ≤ (Int.tmod t334 (t315.length : Int)) then (if (Int.tmod t334 (t315.length : Int)) ≤ (t315.length : Int) then ((some (t315.take ((Int.tmod t334 (t315.length : Int)) : Int).toNat : List Int)).bind fun y338 => (if y335.length + y338.length < 17592186044416 then ((some (y335 ++ y338 : List Int)).bind fun y342 => (if 0 ≤ (wrap64 ((Int.tmod t334 (t315.length : Int)) + 1)) then (if (wrap64 ((Int.tmod t334 (t315.length : Int)) + 1)) ≤ (t315.length : Int) then ((some (t315.drop ((wrap64 ((Int.tmod t334 (t315.length : Int)) + 1)) : Int).toNat : List Int)).bind fun y345 => (if y342.length + y345.length < 17592186044416 then ((some (y342 ++ y345 : List Int)).bind fun y349 => ((impl_RankedOf.f kj8 y349 t316).bind fun bt352 => (laws_FnRendezvous.l0 kj8 l1 t315 t316 t319 t327 t328 (Int.tmod t334 (t315.length : Int)) y349 bt352.1 bt352.2 0 t319 (t319.length : Int) 0))) else (none))) else (none)) else (none))) else (none))) else (none)) else (none))))) else (laws_FnRendezvous.j2 kj8 l1)) else ((spec_DrawMovedKeys.f kj8 l1).bind fun bt392 => ((impl_MovedKeys.f kj8 bt392.1 bt392.2.1 bt392.2.2).bind fun bt401 => ((spec_MovedKeys.f kj8 bt392.1 bt392.2.1 bt392.2.2).bind fun bt405 => ((impl_MovedKeys.f kj8 bt392.1 bt392.2.2 bt392.2.1).bind fun bt409 => (if (bt401.2 == bt405.2) = true then ((laws_sameTexts.f kj8 bt401.1 bt405.1).bind fun t413 => (if t413 = true then (if (bt409.2 == bt401.2) = true then ((laws_sameTexts.f kj8 bt409.1 bt401.1).bind fun t414 => (some t414)) else (none)) else (none))) else (none))))))) = some r := by rw [if_neg (show ¬ (false = true) by decide)] at H; exact H
          clear H
          have H := H1
          clear H1
          by_cases c32 : t320 = true
          · subst c32
            have H1 : (if (t315.length : Int) > 1 then ((laws_numberOf.f kj8 l1).bind fun t334 => (if (t315.length : Int) = 0 then (none) else ((some (([] : List Int) : List Int)).bind fun y335 => (if 0 ≤ (Int.tmod t334 (t315.length : Int)) then (if (Int.tmod t334 (t315.length : Int)) ≤ (t315.length : Int) then ((some (t315.take ((Int.tmod t334 (t315.length : Int)) : Int).toNat : List Int)).bind fun y338 => (if y335.length + y338.length < 17592186044416 then ((some (y335 ++ y338 : List Int)).bind fun y342 => (if 0 ≤ (wrap64 ((Int.tmod t334 (t315.length : Int)) + 1)) then (if (wrap64 ((Int.tmod t334 (t315.length : Int)) + 1)) ≤ (t315.length : Int) then ((some (t315.drop ((wrap64 ((Int.tmod t334 (t315.length : Int)) + 1)) : Int).toNat : List Int)).bind fun y345 => (if y342.length + y345.length < 17592186044416 then ((some (y342 ++ y345 : List Int)).bind fun y349 => ((impl_RankedOf.f kj8 y349 t316).bind fun bt352 => (laws_FnRendezvous.l0 kj8 l1 t315 t316 t319 t327 t328 (Int.tmod t334 (t315.length : Int)) y349 bt352.1 bt352.2 0 t319 (t319.length : Int) 0))) else (none))) else (none)) else (none))) else (none))) else (none)) else (none))))) else (laws_FnRendezvous.j2 kj8 l1)) = some r := by rw [if_pos rfl] at H; exact H
            clear H
            have H := H1
            clear H1
            have HC33 := Aside0.mk H
            clear H
            go_upto_if 99 with (fail)
            go_cut [] (fun wc => ∃ (kq : Nat), Aside0 (laws_FnRendezvous.j2 kq l1 = some r) ∧ Aside0 (kq ≤ kj8) ∧ Aside0 (Below w.heap.size w wc))
            case first =>
              have H := HC33.out
              clear HC33
              by_cases c34 : (t315.length : Int) > 1
              · rw [if_pos c34] at H
                have c34b0 : decide (1 < (t315.length : Int)) = true := decide_eq_true c34
                have c34b1 : decide (1 < t315.length) = true := decide_eq_true (by omega)
                clear c34
                (first | rw [c34b0] | (simp only [i64_w, i32_w]; rw [c34b0]) | skip)
                replace H := Option.bind_eq_some_iff.mp H
                obtain ⟨t334, A350, H⟩ := H
                replace H : (if (t315.length : Int) = 0 then (none) else ((some (([] : List Int) : List Int)).bind fun y335 => (if 0 ≤ (Int.tmod t334 (t315.length : Int)) then (if (Int.tmod t334 (t315.length : Int)) ≤ (t315.length : Int) then ((some (t315.take ((Int.tmod t334 (t315.length : Int)) : Int).toNat : List Int)).bind fun y338 => (if y335.length + y338.length < 17592186044416 then ((some (y335 ++ y338 : List Int)).bind fun y342 => (if 0 ≤ (wrap64 ((Int.tmod t334 (t315.length : Int)) + 1)) then (if (wrap64 ((Int.tmod t334 (t315.length : Int)) + 1)) ≤ (t315.length : Int) then ((some (t315.drop ((wrap64 ((Int.tmod t334 (t315.length : Int)) + 1)) : Int).toNat : List Int)).bind fun y345 => (if y342.length + y345.length < 17592186044416 then ((some (y342 ++ y345 : List Int)).bind fun y349 => ((impl_RankedOf.f kj8 y349 t316).bind fun bt352 => (laws_FnRendezvous.l0 kj8 l1 t315 t316 t319 t327 t328 (Int.tmod t334 (t315.length : Int)) y349 bt352.1 bt352.2 0 t319 (t319.length : Int) 0))) else (none))) else (none)) else (none))) else (none))) else (none)) else (none)))) = some r := H
                have A35 := Aside0.mk A350
                clear A350
                by_cases c36 : (t315.length : Int) = 0
                · rw [if_pos c36] at H
                  exact absurd H (by simp)
                · rw [if_neg c36] at H
                  have c36b0 : ((t315.length : Int) == 0) = false := beq_eq_false_iff_ne.mpr c36
                  have c36b1 : ((t315.length : Int) != 0) = true := bne_iff_ne.mpr c36
                  have c36b2 : ¬ (t315 = []) := fun h_ => c36 (by rw [h_]; rfl)
                  obtain ⟨y335, hy335⟩ : ∃ y_ : List Int, y_ = (([] : List Int)) := ⟨_, rfl⟩
                  replace H : (if 0 ≤ (Int.tmod t334 (t315.length : Int)) then (if (Int.tmod t334 (t315.length : Int)) ≤ (t315.length : Int) then ((some (t315.take ((Int.tmod t334 (t315.length : Int)) : Int).toNat : List Int)).bind fun y338 => (if y335.length + y338.length < 17592186044416 then ((some (y335 ++ y338 : List Int)).bind fun y342 => (if 0 ≤ (wrap64 ((Int.tmod t334 (t315.length : Int)) + 1)) then (if (wrap64 ((Int.tmod t334 (t315.length : Int)) + 1)) ≤ (t315.length : Int) then ((some (t315.drop ((wrap64 ((Int.tmod t334 (t315.length : Int)) + 1)) : Int).toNat : List Int)).bind fun y345 => (if y342.length + y345.length < 17592186044416 then ((some (y342 ++ y345 : List Int)).bind fun y349 => ((impl_RankedOf.f kj8 y349 t316).bind fun bt352 => (laws_FnRendezvous.l0 kj8 l1 t315 t316 t319 t327 t328 (Int.tmod t334 (t315.length : Int)) y349 bt352.1 bt352.2 0 t319 (t319.length : Int) 0))) else (none))) else (none)) else (none))) else (none))) else (none)) else (none)) = some r := by first | (rw [hy335]; with_reducible exact H) | (have H2_ := (Option.bind_some _ _).symm.trans H; rw [hy335]; with_reducible exact H2_) | (have H2_ := (Option.bind_some _ _).symm.trans H; with_reducible exact H2_) | with_reducible exact H | (rw [hy335]; exact H) | exact H
                  have Ny335 := Aside0.mk hy335
                  clear hy335
                  obtain ⟨ji37, hji37⟩ : ∃ j_ : Int, (Int.tmod t334 (t315.length : Int)) = j_ := ⟨_, rfl⟩
                  replace H : (if 0 ≤ (ji37) then (if (ji37) ≤ (t315.length : Int) then ((some (t315.take ((ji37) : Int).toNat : List Int)).bind fun y338 => (if y335.length + y338.length < 17592186044416 then ((some (y335 ++ y338 : List Int)).bind fun y342 => (if 0 ≤ (wrap64 ((ji37) + 1)) then (if (wrap64 ((ji37) + 1)) ≤ (t315.length : Int) then ((some (t315.drop ((wrap64 ((ji37) + 1)) : Int).toNat : List Int)).bind fun y345 => (if y342.length + y345.length < 17592186044416 then ((some (y342 ++ y345 : List Int)).bind fun y349 => ((impl_RankedOf.f kj8 y349 t316).bind fun bt352 => (laws_FnRendezvous.l0 kj8 l1 t315 t316 t319 t327 t328 ji37 y349 bt352.1 bt352.2 0 t319 (t319.length : Int) 0))) else (none))) else (none)) else (none))) else (none))) else (none)) else (none)) = some r := by first | (rw [hji37] at H; exact H) | (simp only [hji37] at H ⊢; exact H)
                  (try rw [hji37] at A35)
                  by_cases c38 : 0 ≤ (ji37)
                  · rw [if_pos c38] at H
                    have c38b0 := eq_true c38
                    have c38b1 : decide (0 ≤ (ji37)) = true := decide_eq_true c38
                    clear c38
                    by_cases c39 : (ji37) ≤ (t315.length : Int)
                    · rw [if_pos c39] at H
                      have c39b0 := eq_true c39
                      have c39b1 : decide ((ji37) ≤ (t315.length : Int)) = true := decide_eq_true c39
                      clear c39
                      obtain ⟨y338, hy338⟩ : ∃ y_ : List Int, y_ = (t315.take ((ji37) : Int).toNat) := ⟨_, rfl⟩
                      replace H : (if y335.length + y338.length < 17592186044416 then ((some (y335 ++ y338 : List Int)).bind fun y342 => (if 0 ≤ (wrap64 ((ji37) + 1)) then (if (wrap64 ((ji37) + 1)) ≤ (t315.length : Int) then ((some (t315.drop ((wrap64 ((ji37) + 1)) : Int).toNat : List Int)).bind fun y345 => (if y342.length + y345.length < 17592186044416 then ((some (y342 ++ y345 : List Int)).bind fun y349 => ((impl_RankedOf.f kj8 y349 t316).bind fun bt352 => (laws_FnRendezvous.l0 kj8 l1 t315 t316 t319 t327 t328 ji37 y349 bt352.1 bt352.2 0 t319 (t319.length : Int) 0))) else (none))) else (none)) else (none))) else (none)) = some r := by first | (rw [hy338]; with_reducible exact H) | (have H2_ := (Option.bind_some _ _).symm.trans H; rw [hy338]; with_reducible exact H2_) | (have H2_ := (Option.bind_some _ _).symm.trans H; with_reducible exact H2_) | with_reducible exact H | (rw [hy338]; exact H) | exact H
                      have Ny338 := Aside0.mk hy338
                      clear hy338
                      by_cases c40 : y335.length + y338.length < 17592186044416
                      · rw [if_pos c40] at H
                        have LMc40 := Aside0.mk c40
                        clear c40
                        obtain ⟨y342, hy342⟩ : ∃ y_ : List Int, y_ = (y335 ++ y338) := ⟨_, rfl⟩
                        replace H : (if 0 ≤ (wrap64 ((ji37) + 1)) then (if (wrap64 ((ji37) + 1)) ≤ (t315.length : Int) then ((some (t315.drop ((wrap64 ((ji37) + 1)) : Int).toNat : List Int)).bind fun y345 => (if y342.length + y345.length < 17592186044416 then ((some (y342 ++ y345 : List Int)).bind fun y349 => ((impl_RankedOf.f kj8 y349 t316).bind fun bt352 => (laws_FnRendezvous.l0 kj8 l1 t315 t316 t319 t327 t328 ji37 y349 bt352.1 bt352.2 0 t319 (t319.length : Int) 0))) else (none))) else (none)) else (none)) = some r := by first | (rw [hy342]; with_reducible exact H) | (have H2_ := (Option.bind_some _ _).symm.trans H; rw [hy342]; with_reducible exact H2_) | (have H2_ := (Option.bind_some _ _).symm.trans H; with_reducible exact H2_) | with_reducible exact H | (rw [hy342]; exact H) | exact H
                        have Ny342 := Aside0.mk hy342
                        clear hy342
                        obtain ⟨ji41, hji41⟩ : ∃ j_ : Int, (wrap64 ((ji37) + 1)) = j_ := ⟨_, rfl⟩
                        replace H : (if 0 ≤ (ji41) then (if (ji41) ≤ (t315.length : Int) then ((some (t315.drop ((ji41) : Int).toNat : List Int)).bind fun y345 => (if y342.length + y345.length < 17592186044416 then ((some (y342 ++ y345 : List Int)).bind fun y349 => ((impl_RankedOf.f kj8 y349 t316).bind fun bt352 => (laws_FnRendezvous.l0 kj8 l1 t315 t316 t319 t327 t328 ji37 y349 bt352.1 bt352.2 0 t319 (t319.length : Int) 0))) else (none))) else (none)) else (none)) = some r := by first | (rw [hji41] at H; exact H) | (simp only [hji41] at H ⊢; exact H)
                        (try rw [hji41] at A35)
                        have hji41w : (IntKind.i64.wrap ((ji37) + 1)) = ji41 := (i64_w _).trans hji41
                        by_cases c42 : 0 ≤ (ji41)
                        · rw [if_pos c42] at H
                          have c42b0 := eq_true c42
                          have c42b1 : decide (0 ≤ (ji41)) = true := decide_eq_true c42
                          clear c42
                          by_cases c43 : (ji41) ≤ (t315.length : Int)
                          · rw [if_pos c43] at H
                            have c43b0 := eq_true c43
                            have c43b1 : decide ((ji41) ≤ (t315.length : Int)) = true := decide_eq_true c43
                            clear c43
                            obtain ⟨y345, hy345⟩ : ∃ y_ : List Int, y_ = (t315.drop ((ji41) : Int).toNat) := ⟨_, rfl⟩
                            replace H : (if y342.length + y345.length < 17592186044416 then ((some (y342 ++ y345 : List Int)).bind fun y349 => ((impl_RankedOf.f kj8 y349 t316).bind fun bt352 => (laws_FnRendezvous.l0 kj8 l1 t315 t316 t319 t327 t328 ji37 y349 bt352.1 bt352.2 0 t319 (t319.length : Int) 0))) else (none)) = some r := by first | (rw [hy345]; with_reducible exact H) | (have H2_ := (Option.bind_some _ _).symm.trans H; rw [hy345]; with_reducible exact H2_) | (have H2_ := (Option.bind_some _ _).symm.trans H; with_reducible exact H2_) | with_reducible exact H | (rw [hy345]; exact H) | exact H
                            have Ny345 := Aside0.mk hy345
                            clear hy345
                            by_cases c44 : y342.length + y345.length < 17592186044416
                            · rw [if_pos c44] at H
                              have LMc44 := Aside0.mk c44
                              clear c44
                              obtain ⟨y349, hy349⟩ : ∃ y_ : List Int, y_ = (y342 ++ y345) := ⟨_, rfl⟩
                              replace H : ((impl_RankedOf.f kj8 y349 t316).bind fun bt352 => (laws_FnRendezvous.l0 kj8 l1 t315 t316 t319 t327 t328 ji37 y349 bt352.1 bt352.2 0 t319 (t319.length : Int) 0)) = some r := by first | (rw [hy349]; with_reducible exact H) | (have H2_ := (Option.bind_some _ _).symm.trans H; rw [hy349]; with_reducible exact H2_) | (have H2_ := (Option.bind_some _ _).symm.trans H; with_reducible exact H2_) | with_reducible exact H | (rw [hy349]; exact H) | exact H
                              have Ny349 := Aside0.mk hy349
                              clear hy349
                              replace H := Option.bind_eq_some_iff.mp H
                              obtain ⟨⟨t352, t353⟩, A450, H⟩ := H
                              replace H : (laws_FnRendezvous.l0 kj8 l1 t315 t316 t319 t327 t328 ji37 y349 t352 t353 0 t319 (t319.length : Int) 0) = some r := H
                              have A45 := Aside0.mk A450
                              clear A450
                              have H' := Aside0.mk H
                              clear H
                              try go_wp2_with (first | ((with_reducible refine gate_callee (f := 28) rfl ?_); refine goesL_ (some 101) rfl rfl Tryd.func28 (by kernel_rfl) rfl #[.slice A1 l1.length c1] rfl (by (try simp only [List.map_toArray, List.map_cons, List.map_nil]); first | done | rfl | (simp only [List.length_drop, List.length_take]; rfl)) ?_; (with_reducible refine (laws_numberOf.calls kj8 _ _ l1 t334 _ ?side1 ?side2 A35.out).mono ?_); (case side1 => repeat (first | exact (Kd.C_below HR1.out HB.out) | (with_reducible refine Kd.C_alloc ?_ _) | (with_reducible refine Kd.C_drewN ?_ _) | (with_reducible refine Kd.C_drew ?_))); (case side2 => exact HC1.out); rintro e w' ⟨rfl, ⟨nd, rfl⟩⟩; refine ⟨_, rfl, ?_⟩))
                              (try (rw [drewN_self wc]; generalize hq_ : World.drewN wc _ = wc; have n0_ : Aside0 (Kd.R (Kd.int .i64) 3 wc w.heap.size (fun k_ => some k_ ≠ (v321 : Value).ownBlock) (.slice Ao11 t315.length co11) t315) := ⟨by rw [← hq_]; exact (by (with_reducible repeat (first | apply Kd.R_alloc | apply Kd.R_drewN | apply Kd.R_drew)); exact HO_5.out)⟩; have n1_ : Aside0 (Kd.R (Kd.int .i64) 3 wc w.heap.size (fun k_ => some k_ ≠ (.slice Ao11 t315.length co11 : Value).ownBlock) v321 t319) := ⟨by rw [← hq_]; exact (by (with_reducible repeat (first | apply Kd.R_alloc | apply Kd.R_drewN | apply Kd.R_drew)); exact HO_7.out)⟩; have n2_ : Aside0 (Below w.heap.size w wc) := ⟨by rw [← hq_]; exact (by repeat (first | (with_reducible first | exact HB.out | apply below_alloc | apply pw_below_drewN | apply below_drew1) | exact HB.out))⟩; clear HO_5 HO_7 HB hq_; have HO_5 := n0_; have HO_7 := n1_; have HB := n2_; clear n0_ n1_ n2_))
                              have n0_ := Aside0.mk (Kd.R_drew HO_5.out)
                              have n1_ := Aside0.mk (Kd.R_drew HO_7.out)
                              have n2_ := Aside0.mk (below_drew1 HB.out)
                              clear HO_5
                              clear HO_7
                              clear HB
                              have HO_5 := n0_
                              have HO_7 := n1_
                              have HB := n2_
                              clear n0_ n1_ n2_
                              have q47 : ((ji37) : Int) ≤ ((t315.length : Int) : Int) := of_decide_eq_true (by first | (with_reducible assumption) | assumption)
                              obtain ⟨i047, hi047, _, hsz47, _⟩ := info_parts info3
                              have hroom47 : t315.length ≤ co11 := (Kd.R_reads' HO_5.out).2.1
                              have hC47 : Kd.C (Kd.int .i64) _ Ao11 t315.length t315 := (Kd.R_reads' HO_5.out).2.2
                              have hcut47 := cut_to (P := Tryd.prog) 22 3 .i64 Tryd.underlying22 hi047 Ao11 t315.length co11 (ji37) (of_decide_eq_true (by first | (with_reducible assumption) | assumption)) q47 hroom47
                              have hr47 := Kd.C_take (m := ((ji37) : Int).toNat) hC47 (by omega)
                              have hy47 : y338.length = ((ji37) : Int).toNat := (by rw [Ny338.out, List.length_take]; omega)
                              rw [← Ny338.out] at hr47
                              rw [← hy47] at hcut47
                              have HR341 := Aside0.mk hr47
                              have HC341 := Aside0.mk (show y338.length ≤ co11 from by omega)
                              clear hr47 hC47 hroom47 hi047 hsz47
                              have KY47 := Aside0.mk hy47
                              clear hy47
                              have KL47 := Aside0.mk (show ((ji37) : Int).toNat ≤ t315.length from by omega)
                              replace q47 := eq_true q47
                              have q48 : ((ji41) : Int) ≤ ((t315.length : Int) : Int) := of_decide_eq_true (by first | (with_reducible assumption) | assumption)
                              obtain ⟨i048, hi048, _, hsz48, _⟩ := info_parts info3
                              have hroom48 : t315.length ≤ co11 := (Kd.R_reads' HO_5.out).2.1
                              have hC48 : Kd.C (Kd.int .i64) _ Ao11 t315.length t315 := (Kd.R_reads' HO_5.out).2.2
                              have q048 : (0 : Int) ≤ ((ji41) : Int) := of_decide_eq_true (by first | (with_reducible assumption) | assumption)
                              have hcut48 := cut_from (P := Tryd.prog) 22 3 .i64 Tryd.underlying22 hi048 1 hsz48 Ao11 t315.length co11 (ji41) q048 q48
                              have hr48 := Kd.C_drop (m := ((ji41) : Int).toNat) (c := co11) hC48 (by omega) hroom48
                              obtain ⟨A48, hA48⟩ : ∃ A1, A1 = (if co11 = ((ji41) : Int).toNat then Ao11 else (Ao11 : Option Addr).map (·.add (((ji41) : Int).toNat * 1))) := ⟨_, rfl⟩
                              obtain ⟨c48, hc48⟩ : ∃ c1, c1 = co11 - ((ji41) : Int).toNat := ⟨_, rfl⟩
                              have hy48 : y345.length = t315.length - ((ji41) : Int).toNat := (by rw [Ny345.out, List.length_drop] <;> omega)
                              rw [show (t315).drop ((ji41) : Int).toNat = y345 from Ny345.out.symm] at hr48
                              replace hr48 : Kd.C (Kd.int .i64) _ A48 y345.length y345 := (by rw [hA48]; exact hr48)
                              rw [← hy48, ← hA48, ← hc48] at hcut48
                              have HR348 := Aside0.mk hr48
                              have HC348 := Aside0.mk (show y345.length ≤ c48 from by rw [hy48, hc48]; exact Nat.sub_le_sub_right hroom48 _)
                              clear hr48 hC48 hroom48 hi048 hsz48 hc48
                              have KY48 := Aside0.mk hy48
                              have KA48 := Aside0.mk hA48
                              clear hy48 hA48
                              have KL48 := Aside0.mk (show ((ji41) : Int).toNat ≤ t315.length from by omega)
                              replace q48 := eq_true q48
                              refine start_ (n := 11) (S := fun w' => True) (ds := []) #[false, false, false, false, false, false, false, false, false, false, false] (by kernel_rfl) rfl rfl trivial (fun hHeld => ?_); refine with_tabW laws_FnRendezvous.tab12 laws_FnRendezvous.bits12 (fun HT_ HW_ => ?_)
                              generalize wc.drew = w46 at HO_5 HO_7 HB HR341 HR348 hHeld ⊢
                              refine pure_ (i := 1) (N := some 106) (v := ?_) (a' := ?_) #[false, true, false, false, false, false, false, false, false, false, false] rfl rfl (any_of HT_.out (by kernel_rfl)) (fun _ _ _ h => h) (Or.inl ⟨by rfl, ?_⟩) ?_ ?_
                              rotate_left
                              · intro w'
                                go_simp
                                with_reducible rfl
                              rotate_left
                              · simp only [Act.put, List.setIfInBounds_toArray, List.set_cons_zero, List.set_cons_succ, i64_w, i32_w]
                                rfl
                              refine pure_ (i := 2) (N := some 107) (v := ?_) (a' := ?_) #[false, true, true, false, false, false, false, false, false, false, false] rfl rfl (any_of HT_.out (by kernel_rfl)) (fun _ _ _ h => h) (Or.inl ⟨by rfl, ?_⟩) ?_ ?_
                              rotate_left
                              · intro w'
                                go_simp
                                with_reducible rfl
                              rotate_left
                              · simp only [Act.put, List.setIfInBounds_toArray, List.set_cons_zero, List.set_cons_succ, i64_w, i32_w]
                                rfl
                              refine pure_ (i := 3) (N := some 108) (v := ?_) (a' := ?_) #[false, true, true, true, false, false, false, false, false, false, false] rfl rfl (any_of HT_.out (by kernel_rfl)) (fun _ _ _ h => h) (Or.inl ⟨by rfl, ?_⟩) ?_ ?_
                              rotate_left
                              · intro w'
                                go_simp
                                with_reducible rfl
                              rotate_left
                              · simp only [Act.put, List.setIfInBounds_toArray, List.set_cons_zero, List.set_cons_succ, i64_w, i32_w]
                                rfl
                              refine pure_ (i := 5) (N := some 110) (v := ?_) (a' := ?_) #[false, true, true, true, false, true, false, false, false, false, false] rfl rfl (any_of HT_.out (by kernel_rfl)) (fun _ _ _ h => h) (Or.inl ⟨by rfl, ?_⟩) ?_ ?_
                              rotate_left
                              · intro w'
                                go_simp
                                with_reducible rfl
                              rotate_left
                              · simp only [Act.put, List.setIfInBounds_toArray, List.set_cons_zero, List.set_cons_succ, i64_w, i32_w]
                                rfl
                              refine pure_ (i := 6) (N := some 111) (v := ?_) (a' := ?_) #[false, true, true, true, false, true, true, false, false, false, false] rfl rfl (any_of HT_.out (by kernel_rfl)) (fun _ _ _ h => h) (Or.inl ⟨by rfl, ?_⟩) ?_ ?_
                              rotate_left
                              · intro w'
                                go_simp
                                with_reducible rfl
                              rotate_left
                              · simp only [Act.put, List.setIfInBounds_toArray, List.set_cons_zero, List.set_cons_succ, i64_w, i32_w]
                                rfl
                              refine pure_ (i := 7) (N := some 112) (v := ?_) (a' := ?_) #[false, true, true, true, false, true, true, true, false, false, false] rfl rfl (any_of HT_.out (by kernel_rfl)) (fun _ _ _ h => h) (Or.inl ⟨by rfl, ?_⟩) ?_ ?_
                              rotate_left
                              · intro w'
                                go_simp
                                with_reducible rfl
                              rotate_left
                              · simp only [Act.put, List.setIfInBounds_toArray, List.set_cons_zero, List.set_cons_succ, i64_w, i32_w]
                                rfl
                              refine pure_ (i := 8) (N := some 113) (v := ?_) (a' := ?_) #[false, true, true, true, false, true, true, true, true, false, false] rfl rfl (any_of HT_.out (by kernel_rfl)) (fun _ _ _ h => h) (Or.inl ⟨by rfl, ?_⟩) ?_ ?_
                              rotate_left
                              · intro w'
                                go_simp
                                with_reducible rfl
                              rotate_left
                              · simp only [Act.put, List.setIfInBounds_toArray, List.set_cons_zero, List.set_cons_succ, i64_w, i32_w]
                                rfl
                              refine one_ (i := 0) (N := some 105) #[true, true, true, true, false, true, true, true, true, false, false] rfl rfl (one_of HT_.out (by kernel_rfl)) (by decide) (fun K hK => ?_)
                              refine Kd.R_lit_step (Kd.int .i64) _ 3 ?hg (N := 105) ?hd (xs := ([] : List Int)) (inner := []) (ok := fun _ => True) (okp := fun _ => True) ?hr ?hp (fun _ hk => hk) trivial (Below.refl _ _) (Nat.le_refl _) (by simp) ?_; (case hd => rfl); (case hg => rfl); (case hr => first | (go_simp; done) | (go_simp; rfl)); (case hp => exact (Reps.none _ _))
                              intro v336 w49 ho50 hb hg_ hnew_
                              clear hg_ hnew_
                              (first | rw [← Ny335.out] at ho50 | (simp only [Int.reduceToNat] at ho50; rw [← Ny335.out] at ho50))
                              have n0_ := Aside0.mk (Kd.R_elder' (by (with_reducible repeat (first | apply Kd.R_alloc | apply Kd.R_drewN | apply Kd.R_drew)); exact HO_5.out) (Kd.R_base ho50) hb)
                              have n1_ := Aside0.mk (Kd.R_elder' (by (with_reducible repeat (first | apply Kd.R_alloc | apply Kd.R_drewN | apply Kd.R_drew)); exact HO_7.out) (Kd.R_base ho50) hb)
                              have n2_ := Aside0.mk (Kd.R_lower (Kd.R_new' (Kd.R_new' ho50 (Kd.R_lt (by (with_reducible repeat (first | apply Kd.R_alloc | apply Kd.R_drewN | apply Kd.R_drew)); exact HO_5.out))) (Kd.R_lt (by (with_reducible repeat (first | apply Kd.R_alloc | apply Kd.R_drewN | apply Kd.R_drew)); exact HO_7.out))) (below_size (by repeat (first | (with_reducible first | exact HB.out | apply below_alloc | apply pw_below_drewN | apply below_drew1) | exact HB.out))))
                              have n3_ := Aside0.mk (Kd.C_below (by repeat (first | (with_reducible exact HR341.out) | (with_reducible refine Kd.C_alloc ?_ _) | (with_reducible refine Kd.C_drewN ?_ _) | (with_reducible refine Kd.C_drew ?_) | exact HR341.out)) hb)
                              have n4_ := Aside0.mk (Kd.C_below (by repeat (first | (with_reducible exact HR348.out) | (with_reducible refine Kd.C_alloc ?_ _) | (with_reducible refine Kd.C_drewN ?_ _) | (with_reducible refine Kd.C_drew ?_) | exact HR348.out)) hb)
                              have n5_ := Aside0.mk (below_step (by repeat (first | (with_reducible first | exact HB.out | apply below_alloc | apply pw_below_drewN | apply below_drew1) | exact HB.out)) hb)
                              clear HO_5
                              clear HO_7
                              clear HR341
                              clear HR348
                              clear HB
                              have HO_5 := n0_
                              have HO_7 := n1_
                              have HO337 := n2_
                              have HR341 := n3_
                              have HR348 := n4_
                              have HB := n5_
                              clear n0_ n1_ n2_ n3_ n4_ n5_
                              clear hb ho50
                              refine hK.out _ _ trivial (fun hHeld => ?_)
                              clear hK K
                              refine norm_ (a' := ?_) ?_ ?_
                              rotate_left
                              · show Act.put _ (some 105) _ = _
                                simp only [Act.put, List.setIfInBounds_toArray, List.set_cons_zero, List.set_cons_succ, i64_w, i32_w]
                                rfl
                              refine one_ (i := 4) (N := some 109) #[true, true, true, true, true, true, true, true, true, false, false] rfl rfl (one_of HT_.out (by kernel_rfl)) (by decide) (fun K hK => ?_)
                              refine Kd.R_append_rows_step (Kd.int .i64) (w0 := w) w.heap.size (by rfl) (.tmp 105) (.tmp 108) 22 3 (.int .i64 0) 8 rfl Tryd.underlying22 info3 rfl (by decide) (by omega) v336 y335 y338 _ _ _ (fun k_ => some k_ ≠ (.slice Ao11 t315.length co11 : Value).ownBlock ∧ some k_ ≠ (v321 : Value).ownBlock) (fun _ => False) rfl rfl ?aO ?aR (fun _ _ h => h) (fun _ h => h.elim) ?aF ?aB ?aS ?aL ?_
                              (case aR => repeat (first | exact (by repeat (first | (with_reducible exact HR341.out) | (with_reducible refine Kd.C_alloc ?_ _) | (with_reducible refine Kd.C_drewN ?_ _) | (with_reducible refine Kd.C_drew ?_) | exact HR341.out)) | (with_reducible refine Kd.C_alloc ?_ _) | (with_reducible refine Kd.C_drewN ?_ _) | (with_reducible refine Kd.C_drew ?_)))
                              (case aB => exact (by repeat (first | (with_reducible first | exact HB.out | apply below_alloc | apply pw_below_drewN | apply below_drew1) | exact HB.out)))
                              (case aF => exact (fun k_ hk => ⟨Kd.fresh' (Kd.R_lt (by (with_reducible repeat (first | apply Kd.R_alloc | apply Kd.R_drewN | apply Kd.R_drew)); exact HO_5.out)) k_ hk, Kd.fresh' (Kd.R_lt (by (with_reducible repeat (first | apply Kd.R_alloc | apply Kd.R_drewN | apply Kd.R_drew)); exact HO_7.out)) k_ hk⟩))
                              (case aO => exact (by (with_reducible repeat (first | apply Kd.R_alloc | apply Kd.R_drewN | apply Kd.R_drew)); exact Kd.R_mono HO337.out (fun _ hk => ⟨hk.1.2, hk.2⟩)))
                              (case aS => exact (below_size (by repeat (first | (with_reducible first | exact HB.out | apply below_alloc | apply pw_below_drewN | apply below_drew1) | exact HB.out))))
                              (case aL => have := LMc40.out; omega)
                              intro v343 w51 ho hb hg hat
                              rw [← Ny342.out] at ho
                              have n0_ := Aside0.mk (Kd.R_after (ok := (fun k_ => some k_ ≠ (v321 : Value).ownBlock)) (by (with_reducible repeat (first | apply Kd.R_alloc | apply Kd.R_drewN | apply Kd.R_drew)); exact HO_5.out) hg hat)
                              have n1_ := Aside0.mk (Kd.R_after (ok := (fun k_ => some k_ ≠ (.slice Ao11 t315.length co11 : Value).ownBlock)) (by (with_reducible repeat (first | apply Kd.R_alloc | apply Kd.R_drewN | apply Kd.R_drew)); exact HO_7.out) hg hat)
                              have n2_ := Aside0.mk (hb)
                              have n3_ := Aside0.mk ((show Kd.C (Kd.int .i64) w51 Ao11 y338.length y338 from by rw [Ny338.out]; exact Kd.C_take (m := ((ji37) : Int).toNat) ((Kd.R_reads' (Kd.R_after (ok := (fun k_ => some k_ ≠ (v321 : Value).ownBlock)) (by (with_reducible repeat (first | apply Kd.R_alloc | apply Kd.R_drewN | apply Kd.R_drew)); exact HO_5.out) hg hat)).2.2) KL47.out))
                              have n4_ := Aside0.mk ((show Kd.C (Kd.int .i64) w51 A48 y345.length y345 from by rw [Ny345.out, KA48.out]; exact Kd.C_drop (m := ((ji41) : Int).toNat) (c := co11) ((Kd.R_reads' (Kd.R_after (ok := (fun k_ => some k_ ≠ (v321 : Value).ownBlock)) (by (with_reducible repeat (first | apply Kd.R_alloc | apply Kd.R_drewN | apply Kd.R_drew)); exact HO_5.out) hg hat)).2.2) KL48.out ((Kd.R_reads' (Kd.R_after (ok := (fun k_ => some k_ ≠ (v321 : Value).ownBlock)) (by (with_reducible repeat (first | apply Kd.R_alloc | apply Kd.R_drewN | apply Kd.R_drew)); exact HO_5.out) hg hat)).2.1)))
                              have n5_ := Aside0.mk (ho)
                              clear HO_5
                              clear HO_7
                              clear HB
                              clear HR341
                              clear HR348
                              clear HO337
                              have HO_5 := n0_
                              have HO_7 := n1_
                              have HB := n2_
                              have HR341 := n3_
                              have HR348 := n4_
                              have HO344 := n5_
                              clear n0_ n1_ n2_ n3_ n4_ n5_
                              clear ho hb hg hat
                              refine hK.out _ _ trivial (fun hHeld => ?_)
                              clear hK K
                              refine norm_ (a' := ?_) ?_ ?_
                              rotate_left
                              · show Act.put _ (some 109) _ = _
                                simp only [Act.put, List.setIfInBounds_toArray, List.set_cons_zero, List.set_cons_succ, i64_w, i32_w]
                                rfl
                              refine one_ (i := 9) (N := some 114) #[true, true, true, true, true, true, true, true, true, true, false] rfl rfl (one_of HT_.out (by kernel_rfl)) (by decide) (fun K hK => ?_)
                              refine Kd.R_append_rows_step (Kd.int .i64) (w0 := w) w.heap.size (by rfl) (.tmp 109) (.tmp 113) 22 3 (.int .i64 0) 8 rfl Tryd.underlying22 info3 rfl (by decide) (by omega) v343 y342 y345 _ _ _ (fun k_ => some k_ ≠ (.slice Ao11 t315.length co11 : Value).ownBlock ∧ some k_ ≠ (v321 : Value).ownBlock) (fun _ => False) rfl rfl ?aO ?aR (fun _ _ h => h) (fun _ h => h.elim) ?aF ?aB ?aS ?aL ?_
                              (case aR => repeat (first | exact (by repeat (first | (with_reducible exact HR348.out) | (with_reducible refine Kd.C_alloc ?_ _) | (with_reducible refine Kd.C_drewN ?_ _) | (with_reducible refine Kd.C_drew ?_) | exact HR348.out)) | (with_reducible refine Kd.C_alloc ?_ _) | (with_reducible refine Kd.C_drewN ?_ _) | (with_reducible refine Kd.C_drew ?_)))
                              (case aB => exact (by repeat (first | (with_reducible first | exact HB.out | apply below_alloc | apply pw_below_drewN | apply below_drew1) | exact HB.out)))
                              (case aF => exact (fun k_ hk => ⟨Kd.fresh' (Kd.R_lt (by (with_reducible repeat (first | apply Kd.R_alloc | apply Kd.R_drewN | apply Kd.R_drew)); exact HO_5.out)) k_ hk, Kd.fresh' (Kd.R_lt (by (with_reducible repeat (first | apply Kd.R_alloc | apply Kd.R_drewN | apply Kd.R_drew)); exact HO_7.out)) k_ hk⟩))
                              (case aO => exact (by (with_reducible repeat (first | apply Kd.R_alloc | apply Kd.R_drewN | apply Kd.R_drew)); exact HO344.out))
                              (case aS => exact (below_size (by repeat (first | (with_reducible first | exact HB.out | apply below_alloc | apply pw_below_drewN | apply below_drew1) | exact HB.out))))
                              (case aL => have := LMc44.out; omega)
                              intro v350 w52 ho hb hg hat
                              rw [← Ny349.out] at ho
                              have n0_ := Aside0.mk (Kd.R_after (ok := (fun k_ => some k_ ≠ (v321 : Value).ownBlock)) (by (with_reducible repeat (first | apply Kd.R_alloc | apply Kd.R_drewN | apply Kd.R_drew)); exact HO_5.out) hg hat)
                              have n1_ := Aside0.mk (Kd.R_after (ok := (fun k_ => some k_ ≠ (.slice Ao11 t315.length co11 : Value).ownBlock)) (by (with_reducible repeat (first | apply Kd.R_alloc | apply Kd.R_drewN | apply Kd.R_drew)); exact HO_7.out) hg hat)
                              have n2_ := Aside0.mk (hb)
                              have n3_ := Aside0.mk ((show Kd.C (Kd.int .i64) w52 Ao11 y338.length y338 from by rw [Ny338.out]; exact Kd.C_take (m := ((ji37) : Int).toNat) ((Kd.R_reads' (Kd.R_after (ok := (fun k_ => some k_ ≠ (v321 : Value).ownBlock)) (by (with_reducible repeat (first | apply Kd.R_alloc | apply Kd.R_drewN | apply Kd.R_drew)); exact HO_5.out) hg hat)).2.2) KL47.out))
                              have n4_ := Aside0.mk ((show Kd.C (Kd.int .i64) w52 A48 y345.length y345 from by rw [Ny345.out, KA48.out]; exact Kd.C_drop (m := ((ji41) : Int).toNat) (c := co11) ((Kd.R_reads' (Kd.R_after (ok := (fun k_ => some k_ ≠ (v321 : Value).ownBlock)) (by (with_reducible repeat (first | apply Kd.R_alloc | apply Kd.R_drewN | apply Kd.R_drew)); exact HO_5.out) hg hat)).2.2) KL48.out ((Kd.R_reads' (Kd.R_after (ok := (fun k_ => some k_ ≠ (v321 : Value).ownBlock)) (by (with_reducible repeat (first | apply Kd.R_alloc | apply Kd.R_drewN | apply Kd.R_drew)); exact HO_5.out) hg hat)).2.1)))
                              have n5_ := Aside0.mk (ho)
                              clear HO_5
                              clear HO_7
                              clear HB
                              clear HR341
                              clear HR348
                              clear HO344
                              have HO_5 := n0_
                              have HO_7 := n1_
                              have HB := n2_
                              have HR341 := n3_
                              have HR348 := n4_
                              have HO351 := n5_
                              clear n0_ n1_ n2_ n3_ n4_ n5_
                              clear ho hb hg hat
                              refine hK.out _ _ trivial (fun hHeld => ?_)
                              clear hK K
                              refine norm_ (a' := ?_) ?_ ?_
                              rotate_left
                              · show Act.put _ (some 114) _ = _
                                simp only [Act.put, List.setIfInBounds_toArray, List.set_cons_zero, List.set_cons_succ, i64_w, i32_w]
                                rfl
                              refine pure_ (i := 10) (N := some 16) (v := ?_) (a' := ?_) #[true, true, true, true, true, true, true, true, true, true, true] rfl rfl (any_of HT_.out (by kernel_rfl)) (fun _ _ _ h => h) (Or.inl ⟨by rfl, ?_⟩) ?_ ?_
                              rotate_left
                              · intro w'
                                go_simp
                                with_reducible rfl
                              rotate_left
                              · simp only [Act.put, List.setIfInBounds_toArray, List.set_cons_zero, List.set_cons_succ, i64_w, i32_w]
                                rfl
                              refine done_ (done_of HT_.out (by kernel_rfl)) ?_
                              obtain ⟨Ao53, co53, eo53⟩ := Kd.R_slice HO351.out
                              subst eo53
                              try go_wp2_with (first | ((with_reducible refine gate_callee (f := 14) rfl ?_); refine goesL_ (some 118) rfl rfl Tryd.func14 (by kernel_rfl) rfl #[.slice Ao53 y349.length co53, .string t316] rfl (by (try simp only [List.map_toArray, List.map_cons, List.map_nil]); first | done | rfl | (simp only [List.length_drop, List.length_take]; rfl)) ?_; (with_reducible refine (impl_RankedOf.calls kj8 _ _ y349 t316 t352 t353 _ ?side1 ?side2 A45.out).mono ?_); (case side1 => repeat (first | exact (Kd.R_reads' HO351.out).2.2 | (with_reducible refine Kd.C_alloc ?_ _) | (with_reducible refine Kd.C_drewN ?_ _) | (with_reducible refine Kd.C_drew ?_))); (case side2 => exact (Kd.R_reads' HO351.out).2.1); rintro e w54 ⟨v354, rfl, ho0, hb⟩; refine ⟨_, rfl, ?_⟩; have n0_ := Aside0.mk (Kd.R_elder' (by (with_reducible repeat (first | apply Kd.R_alloc | apply Kd.R_drewN | apply Kd.R_drew)); exact HO_5.out) (Kd.R_base ho0) hb); have n1_ := Aside0.mk (Kd.R_elder' (by (with_reducible repeat (first | apply Kd.R_alloc | apply Kd.R_drewN | apply Kd.R_drew)); exact HO_7.out) (Kd.R_base ho0) hb); have n2_ := Aside0.mk (Kd.R_elder' (by (with_reducible repeat (first | apply Kd.R_alloc | apply Kd.R_drewN | apply Kd.R_drew)); exact HO351.out) (Kd.R_base ho0) hb); have n3_ := Aside0.mk (Kd.R_lower (Kd.R_new' (Kd.R_new' (Kd.R_new' ho0 (Kd.R_lt (by (with_reducible repeat (first | apply Kd.R_alloc | apply Kd.R_drewN | apply Kd.R_drew)); exact HO_5.out))) (Kd.R_lt (by (with_reducible repeat (first | apply Kd.R_alloc | apply Kd.R_drewN | apply Kd.R_drew)); exact HO_7.out))) (Kd.R_lt (by (with_reducible repeat (first | apply Kd.R_alloc | apply Kd.R_drewN | apply Kd.R_drew)); exact HO351.out))) (below_size (by repeat (first | (with_reducible first | exact HB.out | apply below_alloc | apply pw_below_drewN | apply below_drew1) | exact HB.out)))); have n4_ := Aside0.mk (Kd.C_below (by repeat (first | (with_reducible exact HR341.out) | (with_reducible refine Kd.C_alloc ?_ _) | (with_reducible refine Kd.C_drewN ?_ _) | (with_reducible refine Kd.C_drew ?_) | exact HR341.out)) hb); have n5_ := Aside0.mk (Kd.C_below (by repeat (first | (with_reducible exact HR348.out) | (with_reducible refine Kd.C_alloc ?_ _) | (with_reducible refine Kd.C_drewN ?_ _) | (with_reducible refine Kd.C_drew ?_) | exact HR348.out)) hb); have n6_ := Aside0.mk (below_step (by repeat (first | (with_reducible first | exact HB.out | apply below_alloc | apply pw_below_drewN | apply below_drew1) | exact HB.out)) hb); clear HO_5; clear HO_7; clear HO351; clear HR341; clear HR348; clear HB; have HO_5 := n0_; have HO_7 := n1_; have HO351 := n2_; have HO355 := n3_; have HR341 := n4_; have HR348 := n5_; have HB := n6_; clear n0_ n1_ n2_ n3_ n4_ n5_ n6_; (try clear hb); (try clear hb2); (try clear hk); (try clear hi); (try clear ho0); obtain ⟨Ao55, co55, eo55⟩ := Kd.R_slice HO_7.out; subst eo55))
                              obtain ⟨A348, HR348⟩ : ∃ A_ : Option Addr, Aside0 (Kd.C (Kd.int .i64) _ A_ y345.length y345) := ⟨_, HR348⟩
                              go_loopg [19, 123] kj8 (fun kq v19 v123 w' => ∃ (x19_2 : Int) (x123_2 : Int), v19 = .int .i64 x19_2 ∧ v123 = .int .i64 x123_2 ∧ Aside0 (laws_FnRendezvous.l0 kq l1 t315 t316 t319 t327 t328 ji37 y349 t352 t353 x19_2 t319 (t319.length : Int) x123_2 = some r) ∧ Aside0 (kq ≤ kj8) ∧ Aside0 (Kd.R (Kd.int .i64) 3 w' w.heap.size (fun k_ => some k_ ≠ ((.slice Ao55 t319.length co55) : Value).ownBlock ∧ some k_ ≠ ((.slice Ao53 y349.length co53) : Value).ownBlock ∧ some k_ ≠ (v354 : Value).ownBlock ∧ some k_ ≠ ((.slice Ao55 t319.length co55) : Value).ownBlock) (.slice Ao11 t315.length co11) t315) ∧ Aside0 (Kd.R (Kd.int .i64) 3 w' w.heap.size (fun k_ => some k_ ≠ ((.slice Ao11 t315.length co11) : Value).ownBlock ∧ some k_ ≠ ((.slice Ao53 y349.length co53) : Value).ownBlock ∧ some k_ ≠ (v354 : Value).ownBlock) (.slice Ao55 t319.length co55) t319) ∧ Aside0 (Kd.R (Kd.int .i64) 3 w' w.heap.size (fun k_ => some k_ ≠ ((.slice Ao11 t315.length co11) : Value).ownBlock ∧ some k_ ≠ ((.slice Ao55 t319.length co55) : Value).ownBlock ∧ some k_ ≠ (v354 : Value).ownBlock ∧ some k_ ≠ ((.slice Ao55 t319.length co55) : Value).ownBlock) (.slice Ao53 y349.length co53) y349) ∧ Aside0 (Kd.R (Kd.int .i64) 3 w' w.heap.size (fun k_ => some k_ ≠ ((.slice Ao11 t315.length co11) : Value).ownBlock ∧ some k_ ≠ ((.slice Ao55 t319.length co55) : Value).ownBlock ∧ some k_ ≠ ((.slice Ao53 y349.length co53) : Value).ownBlock ∧ some k_ ≠ ((.slice Ao55 t319.length co55) : Value).ownBlock) v354 t352) ∧ Aside0 (Kd.R (Kd.int .i64) 3 w' w.heap.size (fun k_ => some k_ ≠ ((.slice Ao11 t315.length co11) : Value).ownBlock ∧ some k_ ≠ ((.slice Ao53 y349.length co53) : Value).ownBlock ∧ some k_ ≠ (v354 : Value).ownBlock) (.slice Ao55 t319.length co55) t319) ∧ Aside0 (Kd.C (Kd.int .i64) w' Ao11 y338.length y338) ∧ Aside0 (Kd.C (Kd.int .i64) w' A348 y345.length y345) ∧ Aside0 (Below w.heap.size w w'))
                              case atStart => exact ⟨(0), (0), (by first | rfl | (simp; done) | (simp [*]; done)), (by first | rfl | (simp; done) | (simp [*]; done)), H', ⟨Nat.le_refl _⟩, ⟨by (with_reducible repeat (first | apply Kd.R_alloc | apply Kd.R_drewN | apply Kd.R_drew)); exact Kd.R_mono HO_5.out (fun _ hk => ⟨hk.1.1, ⟨hk.1.2, ⟨hk.2, hk.1.1⟩⟩⟩)⟩, ⟨by (with_reducible repeat (first | apply Kd.R_alloc | apply Kd.R_drewN | apply Kd.R_drew)); exact Kd.R_mono HO_7.out (fun _ hk => ⟨hk.1.1, ⟨hk.1.2, hk.2⟩⟩)⟩, ⟨by (with_reducible repeat (first | apply Kd.R_alloc | apply Kd.R_drewN | apply Kd.R_drew)); exact Kd.R_mono HO351.out (fun _ hk => ⟨hk.1.1, ⟨hk.1.2, ⟨hk.2, hk.1.2⟩⟩⟩)⟩, ⟨by (with_reducible repeat (first | apply Kd.R_alloc | apply Kd.R_drewN | apply Kd.R_drew)); exact Kd.R_mono HO355.out (fun _ hk => ⟨hk.1.1.2, ⟨hk.1.2, ⟨hk.2, hk.1.2⟩⟩⟩)⟩, ⟨by (with_reducible repeat (first | apply Kd.R_alloc | apply Kd.R_drewN | apply Kd.R_drew)); exact Kd.R_mono HO_7.out (fun _ hk => ⟨hk.1.1, ⟨hk.1.2, hk.2⟩⟩)⟩, ⟨by repeat (first | (with_reducible exact HR341.out) | (with_reducible refine Kd.C_alloc ?_ _) | (with_reducible refine Kd.C_drewN ?_ _) | (with_reducible refine Kd.C_drew ?_) | exact HR341.out)⟩, ⟨by repeat (first | (with_reducible exact HR348.out) | (with_reducible refine Kd.C_alloc ?_ _) | (with_reducible refine Kd.C_drewN ?_ _) | (with_reducible refine Kd.C_drew ?_) | exact HR348.out)⟩, ⟨by repeat (first | (with_reducible first | exact HB.out | apply below_alloc | apply pw_below_drewN | apply below_drew1) | exact HB.out)⟩⟩
                              case round =>
                                clear H'
                                try clear c1
                                try clear c2
                                try clear p2
                                try clear c3
                                try clear c3b0
                                try clear c4
                                try clear q4
                                try clear c6
                                try clear p6
                                try clear c9
                                try clear c11
                                try clear c13
                                try clear c14
                                try clear c16
                                try clear c16b0
                                try clear c16b1
                                try clear c16b2
                                try clear c18
                                try clear c19
                                try clear c19b0
                                try clear c19b1
                                try clear c19b2
                                try clear c22
                                try clear c22b0
                                try clear c22b1
                                try clear c24
                                try clear c28
                                try clear c31
                                try clear c32
                                try clear c34
                                try clear c34b0
                                try clear c34b1
                                try clear c36
                                try clear c36b0
                                try clear c36b1
                                try clear c36b2
                                try clear c38
                                try clear c38b0
                                try clear c38b1
                                try clear c39
                                try clear c39b0
                                try clear c39b1
                                try clear c40
                                try clear c42
                                try clear c42b0
                                try clear c42b1
                                try clear c43
                                try clear c43b0
                                try clear c43b1
                                try clear c44
                                try clear q47
                                try clear c48
                                try clear q48
                                try clear p2
                                try clear p6
                                try clear q048
                                try clear q47
                                try clear q48
                                obtain ⟨x19_2, x123_2, rfl, rfl, HA, HK2, HO_5, HO_7, HO_16, HO_17, HO_121, HR341, HR348, HB⟩ := hrel
                                cases gk with
                                | zero => exact absurd HA.out (by simp [laws_FnRendezvous.l0])
                                | succ k2 =>
                                  have H := HA.out
                                  clear HA
                                  simp only [laws_FnRendezvous.l0] at H
                                  by_cases c56 : x123_2 < (t319.length : Int)
                                  · rw [if_pos c56] at H
                                    have c56b0 : decide (x123_2 < (t319.length : Int)) = true := decide_eq_true c56
                                    clear c56
                                    by_cases c57 : 0 ≤ x123_2
                                    · rw [if_pos c57] at H
                                      have c57b0 : decide (0 ≤ x123_2) = true := decide_eq_true c57
                                      clear c57
                                      by_cases c58 : x123_2 < (t319.length : Int)
                                      · rw [if_pos c58] at H
                                        have c58b0 : decide (x123_2 < (t319.length : Int)) = true := decide_eq_true c58
                                        clear c58
                                        by_cases c59 : 0 ≤ ji37
                                        · rw [if_pos c59] at H
                                          have c59b0 : decide (0 ≤ ji37) = true := decide_eq_true c59
                                          clear c59
                                          by_cases c60 : ji37 < (t315.length : Int)
                                          · rw [if_pos c60] at H
                                            have c60b0 : decide (ji37 < (t315.length : Int)) = true := decide_eq_true c60
                                            clear c60
                                            by_cases c61 : (rd t319 x123_2) = (rd t315 ji37)
                                            · rw [if_pos c61] at H
                                              have c61b0 : ((rd t319 x123_2) == (rd t315 ji37)) = true := beq_iff_eq.mpr c61
                                              have c61b1 : ((rd t319 x123_2) != (rd t315 ji37)) = false := bne_eq_false_iff_eq.mpr c61
                                              clear c61
                                              have H' := Aside0.mk H
                                              clear H
                                              have p366 : 0 ≤ (x123_2 : Int) := of_decide_eq_true (by first | (with_reducible assumption) | assumption)
                                              have q366 : x123_2 < (t319.length : Int) := of_decide_eq_true (by first | (with_reducible assumption) | assumption)
                                              obtain ⟨ad366, e366, hx366_0⟩ := Kd.at_int (Kd.R_reads' HO_121.out).2.2 x123_2 p366 q366
                                              cases e366
                                              replace p366 := eq_true p366
                                              replace q366 := eq_true q366
                                              have p367 : 0 ≤ (ji37 : Int) := of_decide_eq_true (by first | (with_reducible assumption) | assumption)
                                              have q367 : ji37 < (t315.length : Int) := of_decide_eq_true (by first | (with_reducible assumption) | assumption)
                                              obtain ⟨ad367, e367, hx367_0⟩ := Kd.at_int (Kd.R_reads' HO_5.out).2.2 ji37 p367 q367
                                              cases e367
                                              replace p367 := eq_true p367
                                              replace q367 := eq_true q367
                                              go_wp2
                                              go_roundg k2
                                              case measure => have := HJ8.out; have := HK2.out; omega
                                              case rel => exact ⟨(x19_2), (wrap64 (x123_2 + 1)), (by first | rfl | (simp; done) | (simp [*]; done)), (by first | rfl | (simp; done) | (simp [*]; done)), H', ⟨by have := HJ8.out; have := HK2.out; omega⟩, ⟨by (with_reducible repeat (first | apply Kd.R_alloc | apply Kd.R_drewN | apply Kd.R_drew)); exact HO_5.out⟩, ⟨by (with_reducible repeat (first | apply Kd.R_alloc | apply Kd.R_drewN | apply Kd.R_drew)); exact HO_7.out⟩, ⟨by (with_reducible repeat (first | apply Kd.R_alloc | apply Kd.R_drewN | apply Kd.R_drew)); exact HO_16.out⟩, ⟨by (with_reducible repeat (first | apply Kd.R_alloc | apply Kd.R_drewN | apply Kd.R_drew)); exact HO_17.out⟩, ⟨by (with_reducible repeat (first | apply Kd.R_alloc | apply Kd.R_drewN | apply Kd.R_drew)); exact HO_121.out⟩, ⟨by repeat (first | (with_reducible exact HR341.out) | (with_reducible refine Kd.C_alloc ?_ _) | (with_reducible refine Kd.C_drewN ?_ _) | (with_reducible refine Kd.C_drew ?_) | exact HR341.out)⟩, ⟨by repeat (first | (with_reducible exact HR348.out) | (with_reducible refine Kd.C_alloc ?_ _) | (with_reducible refine Kd.C_drewN ?_ _) | (with_reducible refine Kd.C_drew ?_) | exact HR348.out)⟩, ⟨by repeat (first | (with_reducible first | exact HB.out | apply below_alloc | apply pw_below_drewN | apply below_drew1) | exact HB.out)⟩⟩
                                            · rw [if_neg c61] at H
                                              have c61b0 : ((rd t319 x123_2) == (rd t315 ji37)) = false := beq_eq_false_iff_ne.mpr c61
                                              have c61b1 : ((rd t319 x123_2) != (rd t315 ji37)) = true := bne_iff_ne.mpr c61
                                              by_cases c62 : x19_2 ≥ (t352.length : Int)
                                              · rw [if_pos c62] at H
                                                exact absurd H (by simp)
                                              · rw [if_neg c62] at H
                                                have c62b0 : decide ((t352.length : Int) ≤ x19_2) = false := decide_eq_false c62
                                                clear c62
                                                by_cases c63 : 0 ≤ x19_2
                                                · rw [if_pos c63] at H
                                                  have c63b0 : decide (0 ≤ x19_2) = true := decide_eq_true c63
                                                  clear c63
                                                  by_cases c64 : x19_2 < (t352.length : Int)
                                                  · rw [if_pos c64] at H
                                                    have c64b0 : decide (x19_2 < (t352.length : Int)) = true := decide_eq_true c64
                                                    clear c64
                                                    by_cases c65 : (rd t352 x19_2) = (rd t319 x123_2)
                                                    · rw [if_pos c65] at H
                                                      have c65b0 : ((rd t352 x19_2) == (rd t319 x123_2)) = true := beq_iff_eq.mpr c65
                                                      have c65b1 : ((rd t352 x19_2) != (rd t319 x123_2)) = false := bne_eq_false_iff_eq.mpr c65
                                                      clear c65
                                                      have H' := Aside0.mk H
                                                      clear H
                                                      have p366 : 0 ≤ (x123_2 : Int) := of_decide_eq_true (by first | (with_reducible assumption) | assumption)
                                                      have q366 : x123_2 < (t319.length : Int) := of_decide_eq_true (by first | (with_reducible assumption) | assumption)
                                                      obtain ⟨ad366, e366, hx366_0⟩ := Kd.at_int (Kd.R_reads' HO_121.out).2.2 x123_2 p366 q366
                                                      cases e366
                                                      replace p366 := eq_true p366
                                                      replace q366 := eq_true q366
                                                      have p367 : 0 ≤ (ji37 : Int) := of_decide_eq_true (by first | (with_reducible assumption) | assumption)
                                                      have q367 : ji37 < (t315.length : Int) := of_decide_eq_true (by first | (with_reducible assumption) | assumption)
                                                      obtain ⟨ad367, e367, hx367_0⟩ := Kd.at_int (Kd.R_reads' HO_5.out).2.2 ji37 p367 q367
                                                      cases e367
                                                      replace p367 := eq_true p367
                                                      replace q367 := eq_true q367
                                                      obtain ⟨Ao66, co66, eo66⟩ := Kd.R_slice HO_17.out
                                                      subst eo66
                                                      have p368 : 0 ≤ (x19_2 : Int) := of_decide_eq_true (by first | (with_reducible assumption) | assumption)
                                                      have q368 : x19_2 < (t352.length : Int) := of_decide_eq_true (by first | (with_reducible assumption) | assumption)
                                                      obtain ⟨ad368, e368, hx368_0⟩ := Kd.at_int (Kd.R_reads' HO_17.out).2.2 x19_2 p368 q368
                                                      cases e368
                                                      replace p368 := eq_true p368
                                                      replace q368 := eq_true q368
                                                      go_wp2
                                                      go_roundg k2
                                                      case measure => have := HJ8.out; have := HK2.out; omega
                                                      case rel => exact ⟨(wrap64 (x19_2 + 1)), (wrap64 (x123_2 + 1)), (by first | rfl | (simp; done) | (simp [*]; done)), (by first | rfl | (simp; done) | (simp [*]; done)), H', ⟨by have := HJ8.out; have := HK2.out; omega⟩, ⟨by (with_reducible repeat (first | apply Kd.R_alloc | apply Kd.R_drewN | apply Kd.R_drew)); exact HO_5.out⟩, ⟨by (with_reducible repeat (first | apply Kd.R_alloc | apply Kd.R_drewN | apply Kd.R_drew)); exact HO_7.out⟩, ⟨by (with_reducible repeat (first | apply Kd.R_alloc | apply Kd.R_drewN | apply Kd.R_drew)); exact HO_16.out⟩, ⟨by (with_reducible repeat (first | apply Kd.R_alloc | apply Kd.R_drewN | apply Kd.R_drew)); exact HO_17.out⟩, ⟨by (with_reducible repeat (first | apply Kd.R_alloc | apply Kd.R_drewN | apply Kd.R_drew)); exact HO_121.out⟩, ⟨by repeat (first | (with_reducible exact HR341.out) | (with_reducible refine Kd.C_alloc ?_ _) | (with_reducible refine Kd.C_drewN ?_ _) | (with_reducible refine Kd.C_drew ?_) | exact HR341.out)⟩, ⟨by repeat (first | (with_reducible exact HR348.out) | (with_reducible refine Kd.C_alloc ?_ _) | (with_reducible refine Kd.C_drewN ?_ _) | (with_reducible refine Kd.C_drew ?_) | exact HR348.out)⟩, ⟨by repeat (first | (with_reducible first | exact HB.out | apply below_alloc | apply pw_below_drewN | apply below_drew1) | exact HB.out)⟩⟩
                                                    · rw [if_neg c65] at H
                                                      exact absurd H (by simp)
                                                  · rw [if_neg c64] at H
                                                    exact absurd H (by simp)
                                                · rw [if_neg c63] at H
                                                  exact absurd H (by simp)
                                          · rw [if_neg c60] at H
                                            exact absurd H (by simp)
                                        · rw [if_neg c59] at H
                                          exact absurd H (by simp)
                                      · rw [if_neg c58] at H
                                        exact absurd H (by simp)
                                    · rw [if_neg c57] at H
                                      exact absurd H (by simp)
                                  · rw [if_neg c56] at H
                                    have c56b0 : decide (x123_2 < (t319.length : Int)) = false := decide_eq_false c56
                                    clear c56
                                    obtain ⟨y356, hy356⟩ : ∃ y_ : List ByteArray, y_ = (([t316] : List ByteArray)) := ⟨_, rfl⟩
                                    replace H : ((impl_MovedKeys.f k2 y356 t315 y349).bind fun bt359 => (if t328 = true then (if 0 < (t319.length : Int) then (if t327 = (rd t319 0) then (if t353 = true then (if x19_2 = (t352.length : Int) then (if bt359.2 = true then (if 0 ≤ ji37 then (if ji37 < (t315.length : Int) then (if (((bt359.1.length : Int) == 1) != ((rd t319 0) == (rd t315 ji37))) = true then (none) else (laws_FnRendezvous.j2 k2 l1)) else (none)) else (none)) else (none)) else (none)) else (none)) else (none)) else (none)) else (none))) = some r := by first | (rw [hy356]; with_reducible exact H) | (have H2_ := (Option.bind_some _ _).symm.trans H; rw [hy356]; with_reducible exact H2_) | (have H2_ := (Option.bind_some _ _).symm.trans H; with_reducible exact H2_) | with_reducible exact H | (rw [hy356]; exact H) | exact H
                                    have Ny356 := Aside0.mk hy356
                                    clear hy356
                                    replace H := Option.bind_eq_some_iff.mp H
                                    obtain ⟨⟨t359, t360⟩, A670, H⟩ := H
                                    replace H : (if t328 = true then (if 0 < (t319.length : Int) then (if t327 = (rd t319 0) then (if t353 = true then (if x19_2 = (t352.length : Int) then (if t360 = true then (if 0 ≤ ji37 then (if ji37 < (t315.length : Int) then (if (((t359.length : Int) == 1) != ((rd t319 0) == (rd t315 ji37))) = true then (none) else (laws_FnRendezvous.j2 k2 l1)) else (none)) else (none)) else (none)) else (none)) else (none)) else (none)) else (none)) else (none)) = some r := H
                                    have A67 := Aside0.mk A670
                                    clear A670
                                    by_cases c68 : t328 = true
                                    · subst c68
                                      have H1 : (if 0 < (t319.length : Int) then (if t327 = (rd t319 0) then (if t353 = true then (if x19_2 = (t352.length : Int) then (if t360 = true then (if 0 ≤ ji37 then (if ji37 < (t315.length : Int) then (if (((t359.length : Int) == 1) != ((rd t319 0) == (rd t315 ji37))) = true then (none) else (laws_FnRendezvous.j2 k2 l1)) else (none)) else (none)) else (none)) else (none)) else (none)) else (none)) else (none)) = some r := by rw [if_pos rfl] at H; exact H
                                      clear H
                                      have H := H1
                                      clear H1
                                      by_cases c69 : 0 < (t319.length : Int)
                                      · rw [if_pos c69] at H
                                        have c69b0 : decide (0 < (t319.length : Int)) = true := decide_eq_true c69
                                        have c69b1 : decide (0 < t319.length) = true := decide_eq_true (by omega)
                                        clear c69
                                        by_cases c70 : t327 = (rd t319 0)
                                        · rw [if_pos c70] at H
                                          have c70b0 : (t327 == (rd t319 0)) = true := beq_iff_eq.mpr c70
                                          have c70b1 : (t327 != (rd t319 0)) = false := bne_eq_false_iff_eq.mpr c70
                                          clear c70
                                          by_cases c71 : t353 = true
                                          · subst c71
                                            have H1 : (if x19_2 = (t352.length : Int) then (if t360 = true then (if 0 ≤ ji37 then (if ji37 < (t315.length : Int) then (if (((t359.length : Int) == 1) != ((rd t319 0) == (rd t315 ji37))) = true then (none) else (laws_FnRendezvous.j2 k2 l1)) else (none)) else (none)) else (none)) else (none)) = some r := by rw [if_pos rfl] at H; exact H
                                            clear H
                                            have H := H1
                                            clear H1
                                            by_cases c72 : x19_2 = (t352.length : Int)
                                            · rw [if_pos c72] at H
                                              have c72b0 : (x19_2 == (t352.length : Int)) = true := beq_iff_eq.mpr c72
                                              have c72b1 : (x19_2 != (t352.length : Int)) = false := bne_eq_false_iff_eq.mpr c72
                                              clear c72
                                              by_cases c73 : t360 = true
                                              · subst c73
                                                have H1 : (if 0 ≤ ji37 then (if ji37 < (t315.length : Int) then (if (((t359.length : Int) == 1) != ((rd t319 0) == (rd t315 ji37))) = true then (none) else (laws_FnRendezvous.j2 k2 l1)) else (none)) else (none)) = some r := by rw [if_pos rfl] at H; exact H
                                                clear H
                                                have H := H1
                                                clear H1
                                                by_cases c74 : 0 ≤ ji37
                                                · rw [if_pos c74] at H
                                                  have c74b0 : decide (0 ≤ ji37) = true := decide_eq_true c74
                                                  clear c74
                                                  by_cases c75 : ji37 < (t315.length : Int)
                                                  · rw [if_pos c75] at H
                                                    have c75b0 : decide (ji37 < (t315.length : Int)) = true := decide_eq_true c75
                                                    clear c75
                                                    by_cases c76 : (((t359.length : Int) == 1) != ((rd t319 0) == (rd t315 ji37))) = true
                                                    · rw [if_pos c76] at H
                                                      exact absurd H (by simp)
                                                    · rw [if_neg c76] at H
                                                      have c76b0 : (((t359.length : Int) == 1) != ((rd t319 0) == (rd t315 ji37))) = false := by simpa using c76
                                                      (try (have c76b1 : decide (((t359.length : Int) == 1) = ((rd t319 0) == (rd t315 ji37))) = true := by simpa using c76))
                                                      (try (have c76b2 : (((t359.length : Int) == 1) == ((rd t319 0) == (rd t315 ji37))) = true := by simpa using c76))
                                                      clear c76
                                                      have H' := Aside0.mk H
                                                      clear H
                                                      try go_wp2_with (first | ((with_reducible refine gate_dst (N := 150) rfl ?_); (try (refine gate_guard (by rfl) ?_; dsimp only)); refine Kd.R_lit Kd.string _ 9 ?hg (N := 150) ?hd (xs := ([t316] : List ByteArray)) (inner := [.string t316]) (ok := fun _ => True) (okp := fun _ => True) ?hr ?hp (fun _ hk => hk) trivial (Below.refl _ _) (Nat.le_refl _) (by simp) ?_; (case hd => rfl); (case hg => rfl); (case hr => first | (go_simp; done) | (go_simp; rfl)); (case hp => exact (Reps.one (show Kd.M Kd.string _ _ _ t316 [.string t316] from rfl) (Reps.none _ _))); intro v357 w77 ho78 hb hg_ hnew_; clear hg_ hnew_; (first | rw [← Ny356.out] at ho78 | (simp only [Int.reduceToNat] at ho78; rw [← Ny356.out] at ho78)); have n0_ := Aside0.mk (Kd.R_below (by (with_reducible repeat (first | apply Kd.R_alloc | apply Kd.R_drewN | apply Kd.R_drew)); exact HO_5.out) hb); have n1_ := Aside0.mk (Kd.R_below (by (with_reducible repeat (first | apply Kd.R_alloc | apply Kd.R_drewN | apply Kd.R_drew)); exact HO_7.out) hb); have n2_ := Aside0.mk (Kd.R_below (by (with_reducible repeat (first | apply Kd.R_alloc | apply Kd.R_drewN | apply Kd.R_drew)); exact HO_16.out) hb); have n3_ := Aside0.mk (Kd.R_below (by (with_reducible repeat (first | apply Kd.R_alloc | apply Kd.R_drewN | apply Kd.R_drew)); exact HO_17.out) hb); have n4_ := Aside0.mk (Kd.R_below (by (with_reducible repeat (first | apply Kd.R_alloc | apply Kd.R_drewN | apply Kd.R_drew)); exact HO_121.out) hb); have n5_ := Aside0.mk (Kd.R_lower ho78 (below_size (by repeat (first | (with_reducible first | exact HB.out | apply below_alloc | apply pw_below_drewN | apply below_drew1) | exact HB.out)))); have n6_ := Aside0.mk (Kd.C_below (by repeat (first | (with_reducible exact HR341.out) | (with_reducible refine Kd.C_alloc ?_ _) | (with_reducible refine Kd.C_drewN ?_ _) | (with_reducible refine Kd.C_drew ?_) | exact HR341.out)) hb); have n7_ := Aside0.mk (Kd.C_below (by repeat (first | (with_reducible exact HR348.out) | (with_reducible refine Kd.C_alloc ?_ _) | (with_reducible refine Kd.C_drewN ?_ _) | (with_reducible refine Kd.C_drew ?_) | exact HR348.out)) hb); have n8_ := Aside0.mk (below_step (by repeat (first | (with_reducible first | exact HB.out | apply below_alloc | apply pw_below_drewN | apply below_drew1) | exact HB.out)) hb); clear HO_5; clear HO_7; clear HO_16; clear HO_17; clear HO_121; clear HR341; clear HR348; clear HB; have HO_5 := n0_; have HO_7 := n1_; have HO_16 := n2_; have HO_17 := n3_; have HO_121 := n4_; have HO358 := n5_; have HR341 := n6_; have HR348 := n7_; have HB := n8_; clear n0_ n1_ n2_ n3_ n4_ n5_ n6_ n7_ n8_; clear hb ho78; obtain ⟨Ao79, co79, eo79⟩ := Kd.R_slice HO358.out; subst eo79) | ((with_reducible refine gate_callee (f := 20) rfl ?_); refine goesL_ (some 153) rfl rfl Tryd.func20 (by kernel_rfl) rfl #[.slice Ao79 y356.length co79, .slice Ao11 t315.length co11, .slice Ao53 y349.length co53] rfl (by (try simp only [List.map_toArray, List.map_cons, List.map_nil]); first | done | rfl | (simp only [List.length_drop, List.length_take]; rfl)) ?_; (with_reducible refine (impl_MovedKeys.calls k2 _ _ y356 _ _ t315 _ _ y349 t359 true _ ?side1 ?side2 ?side3 ?side4 ?side5 ?side6 A67.out).mono ?_); (case side1 => repeat (first | exact (Kd.R_reads' HO358.out).2.2 | (with_reducible refine Kd.C_alloc ?_ _) | (with_reducible refine Kd.C_drewN ?_ _) | (with_reducible refine Kd.C_drew ?_))); (case side2 => exact (Kd.R_reads' HO358.out).2.1); (case side3 => repeat (first | exact (Kd.R_reads' HO_5.out).2.2 | (with_reducible refine Kd.C_alloc ?_ _) | (with_reducible refine Kd.C_drewN ?_ _) | (with_reducible refine Kd.C_drew ?_))); (case side4 => exact (Kd.R_reads' HO_5.out).2.1); (case side5 => repeat (first | exact (Kd.R_reads' HO_16.out).2.2 | (with_reducible refine Kd.C_alloc ?_ _) | (with_reducible refine Kd.C_drewN ?_ _) | (with_reducible refine Kd.C_drew ?_))); (case side6 => exact (Kd.R_reads' HO_16.out).2.1); rintro e w80 ⟨v361, rfl, ho0, hb⟩; refine ⟨_, rfl, ?_⟩; have n0_ := Aside0.mk (Kd.R_below (by (with_reducible repeat (first | apply Kd.R_alloc | apply Kd.R_drewN | apply Kd.R_drew)); exact HO_5.out) hb); have n1_ := Aside0.mk (Kd.R_below (by (with_reducible repeat (first | apply Kd.R_alloc | apply Kd.R_drewN | apply Kd.R_drew)); exact HO_7.out) hb); have n2_ := Aside0.mk (Kd.R_below (by (with_reducible repeat (first | apply Kd.R_alloc | apply Kd.R_drewN | apply Kd.R_drew)); exact HO_16.out) hb); have n3_ := Aside0.mk (Kd.R_below (by (with_reducible repeat (first | apply Kd.R_alloc | apply Kd.R_drewN | apply Kd.R_drew)); exact HO_17.out) hb); have n4_ := Aside0.mk (Kd.R_below (by (with_reducible repeat (first | apply Kd.R_alloc | apply Kd.R_drewN | apply Kd.R_drew)); exact HO_121.out) hb); have n5_ := Aside0.mk (Kd.R_elder' (by (with_reducible repeat (first | apply Kd.R_alloc | apply Kd.R_drewN | apply Kd.R_drew)); exact HO358.out) (Kd.R_base ho0) hb); have n6_ := Aside0.mk (Kd.R_lower (Kd.R_new' ho0 (Kd.R_lt (by (with_reducible repeat (first | apply Kd.R_alloc | apply Kd.R_drewN | apply Kd.R_drew)); exact HO358.out))) (below_size (by repeat (first | (with_reducible first | exact HB.out | apply below_alloc | apply pw_below_drewN | apply below_drew1) | exact HB.out)))); have n7_ := Aside0.mk (Kd.C_below (by repeat (first | (with_reducible exact HR341.out) | (with_reducible refine Kd.C_alloc ?_ _) | (with_reducible refine Kd.C_drewN ?_ _) | (with_reducible refine Kd.C_drew ?_) | exact HR341.out)) hb); have n8_ := Aside0.mk (Kd.C_below (by repeat (first | (with_reducible exact HR348.out) | (with_reducible refine Kd.C_alloc ?_ _) | (with_reducible refine Kd.C_drewN ?_ _) | (with_reducible refine Kd.C_drew ?_) | exact HR348.out)) hb); have n9_ := Aside0.mk (below_step (by repeat (first | (with_reducible first | exact HB.out | apply below_alloc | apply pw_below_drewN | apply below_drew1) | exact HB.out)) hb); clear HO_5; clear HO_7; clear HO_16; clear HO_17; clear HO_121; clear HO358; clear HR341; clear HR348; clear HB; have HO_5 := n0_; have HO_7 := n1_; have HO_16 := n2_; have HO_17 := n3_; have HO_121 := n4_; have HO358 := n5_; have HO362 := n6_; have HR341 := n7_; have HR348 := n8_; have HB := n9_; clear n0_ n1_ n2_ n3_ n4_ n5_ n6_ n7_ n8_ n9_; (try clear hb); (try clear hb2); (try clear hk); (try clear hi); (try clear ho0)))
                                                      have n0_ := Aside0.mk (Kd.R_drew HO_5.out)
                                                      have n1_ := Aside0.mk (Kd.R_drew HO_7.out)
                                                      have n2_ := Aside0.mk (Kd.R_drew HO_16.out)
                                                      have n3_ := Aside0.mk (Kd.R_drew HO_17.out)
                                                      have n4_ := Aside0.mk (Kd.R_drew HO_121.out)
                                                      have n5_ := Aside0.mk (Kd.R_drew HO358.out)
                                                      have n6_ := Aside0.mk (Kd.R_drew HO362.out)
                                                      have n7_ := Aside0.mk (Kd.C_drew HR341.out)
                                                      have n8_ := Aside0.mk (Kd.C_drew HR348.out)
                                                      have n9_ := Aside0.mk (below_drew1 HB.out)
                                                      clear HO_5
                                                      clear HO_7
                                                      clear HO_16
                                                      clear HO_17
                                                      clear HO_121
                                                      clear HO358
                                                      clear HO362
                                                      clear HR341
                                                      clear HR348
                                                      clear HB
                                                      have HO_5 := n0_
                                                      have HO_7 := n1_
                                                      have HO_16 := n2_
                                                      have HO_17 := n3_
                                                      have HO_121 := n4_
                                                      have HO358 := n5_
                                                      have HO362 := n6_
                                                      have HR341 := n7_
                                                      have HR348 := n8_
                                                      have HB := n9_
                                                      clear n0_ n1_ n2_ n3_ n4_ n5_ n6_ n7_ n8_ n9_
                                                      have p363 : 0 ≤ (0 : Int) := (by omega)
                                                      have q363 : 0 < (t319.length : Int) := of_decide_eq_true (by first | (with_reducible assumption) | assumption)
                                                      obtain ⟨ad363, e363, hx363_0⟩ := Kd.at_int (Kd.R_reads' HO_7.out).2.2 0 p363 q363
                                                      cases e363
                                                      have qi363 : (0 < t319.length) = True := eq_true (by omega)
                                                      (try rw [show ((0 : Int)).toNat = 0 from rfl] at hx363_0)
                                                      (try rw [Addr.add_zero'] at hx363_0)
                                                      replace p363 := eq_true p363
                                                      replace q363 := eq_true q363
                                                      obtain ⟨Ao82, co82, eo82⟩ := Kd.R_slice HO_17.out
                                                      (first | subst eo82 | (injection eo82 with f1_ f2_ f3_; have f4_ := f1_.symm; have f5_ := f3_.symm; clear f1_ f2_ f3_; subst f4_; subst f5_))
                                                      obtain ⟨Ao83, co83, eo83⟩ := Kd.R_slice HO362.out
                                                      (first | subst eo83 | (injection eo83 with f1_ f2_ f3_; have f4_ := f1_.symm; have f5_ := f3_.symm; clear f1_ f2_ f3_; subst f4_; subst f5_))
                                                      have p364 : 0 ≤ (0 : Int) := (by omega)
                                                      have q364 : 0 < (t319.length : Int) := of_decide_eq_true (by first | (with_reducible assumption) | assumption)
                                                      obtain ⟨ad364, e364, hx364_0⟩ := Kd.at_int (Kd.R_reads' HO_7.out).2.2 0 p364 q364
                                                      obtain rfl : ad363 = ad364 := (by injection e364)
                                                      have qi364 : (0 < t319.length) = True := eq_true (by omega)
                                                      (try rw [show ((0 : Int)).toNat = 0 from rfl] at hx364_0)
                                                      (try rw [Addr.add_zero'] at hx364_0)
                                                      replace p364 := eq_true p364
                                                      replace q364 := eq_true q364
                                                      have p365 : 0 ≤ (ji37 : Int) := of_decide_eq_true (by first | (with_reducible assumption) | assumption)
                                                      have q365 : ji37 < (t315.length : Int) := of_decide_eq_true (by first | (with_reducible assumption) | assumption)
                                                      obtain ⟨ad365, e365, hx365_0⟩ := Kd.at_int (Kd.R_reads' HO_5.out).2.2 ji37 p365 q365
                                                      cases e365
                                                      replace p365 := eq_true p365
                                                      replace q365 := eq_true q365
                                                      refine start_ (n := 37) (S := fun w' => w'.cell? ad363 = some (.int .i64 (rd t319 0)) ∧ w'.cell? ad363 = some (.int .i64 (rd t319 0)) ∧ w'.cell? (ad365.add (ji37).toNat) = some (.int .i64 (rd t315 ji37))) (ds := []) #[false, false, false, false, false, false, false, false, false, false, false, false, false, false, false, false, false, false, false, false, false, false, false, false, false, false, false, false, false, false, false, false, false, false, false, false, false] (by kernel_rfl) rfl rfl ⟨hx363_0, hx364_0, hx365_0⟩ (fun hHeld => ?_); refine with_tabW laws_FnRendezvous.tab24 laws_FnRendezvous.bits24 (fun HT_ HW_ => ?_)
                                                      generalize w80.drew = w81 at HO_5 HO_7 HO_16 HO_17 HO_121 HO358 HO362 HR341 HR348 HB hx363_0 hx364_0 hx365_0 hHeld ⊢
                                                      refine pure_ (i := 0) (N := some 156) (v := ?_) (a' := ?_) #[true, false, false, false, false, false, false, false, false, false, false, false, false, false, false, false, false, false, false, false, false, false, false, false, false, false, false, false, false, false, false, false, false, false, false, false, false] rfl rfl (any_of HT_.out (by kernel_rfl)) (fun _ _ _ h => h) (Or.inl ⟨by rfl, ?_⟩) ?_ ?_
                                                      rotate_left
                                                      · intro w'
                                                        go_simp
                                                        with_reducible rfl
                                                      rotate_left
                                                      · simp only [Act.put, List.setIfInBounds_toArray, List.set_cons_zero, List.set_cons_succ, i64_w, i32_w]
                                                        rfl
                                                      refine pure_ (i := 1) (N := some 157) (v := ?_) (a' := ?_) #[true, true, false, false, false, false, false, false, false, false, false, false, false, false, false, false, false, false, false, false, false, false, false, false, false, false, false, false, false, false, false, false, false, false, false, false, false] rfl rfl (any_of HT_.out (by kernel_rfl)) (fun _ _ _ h => h) (Or.inl ⟨by rfl, ?_⟩) ?_ ?_
                                                      rotate_left
                                                      · intro w'
                                                        go_simp
                                                        with_reducible rfl
                                                      rotate_left
                                                      · simp only [Act.put, List.setIfInBounds_toArray, List.set_cons_zero, List.set_cons_succ, i64_w, i32_w]
                                                        rfl
                                                      refine pure_ (i := 2) (N := some 158) (v := ?_) (a' := ?_) #[true, true, true, false, false, false, false, false, false, false, false, false, false, false, false, false, false, false, false, false, false, false, false, false, false, false, false, false, false, false, false, false, false, false, false, false, false] rfl rfl (any_of HT_.out (by kernel_rfl)) (fun _ _ _ h => h) (Or.inl ⟨by rfl, ?_⟩) ?_ ?_
                                                      rotate_left
                                                      · intro w'
                                                        go_simp
                                                        with_reducible rfl
                                                      rotate_left
                                                      · simp only [Act.put, List.setIfInBounds_toArray, List.set_cons_zero, List.set_cons_succ, i64_w, i32_w]
                                                        rfl
                                                      refine pure_ (i := 3) (N := some 159) (v := ?_) (a' := ?_) #[true, true, true, true, false, false, false, false, false, false, false, false, false, false, false, false, false, false, false, false, false, false, false, false, false, false, false, false, false, false, false, false, false, false, false, false, false] rfl rfl (any_of HT_.out (by kernel_rfl)) (fun _ _ _ h => h) (Or.inl ⟨by rfl, ?_⟩) ?_ ?_
                                                      rotate_left
                                                      · intro w'
                                                        go_simp
                                                        with_reducible rfl
                                                      rotate_left
                                                      · simp only [Act.put, List.setIfInBounds_toArray, List.set_cons_zero, List.set_cons_succ, i64_w, i32_w]
                                                        rfl
                                                      refine pure_ (i := 4) (N := some 160) (v := ?_) (a' := ?_) #[true, true, true, true, true, false, false, false, false, false, false, false, false, false, false, false, false, false, false, false, false, false, false, false, false, false, false, false, false, false, false, false, false, false, false, false, false] rfl rfl (any_of HT_.out (by kernel_rfl)) (fun _ _ _ h => h) (Or.inl ⟨by rfl, ?_⟩) ?_ ?_
                                                      rotate_left
                                                      · intro w'
                                                        go_simp
                                                        with_reducible rfl
                                                      rotate_left
                                                      · simp only [Act.put, List.setIfInBounds_toArray, List.set_cons_zero, List.set_cons_succ, i64_w, i32_w]
                                                        rfl
                                                      refine pure_ (i := 5) (N := some 161) (v := ?_) (a' := ?_) #[true, true, true, true, true, true, false, false, false, false, false, false, false, false, false, false, false, false, false, false, false, false, false, false, false, false, false, false, false, false, false, false, false, false, false, false, false] rfl rfl (any_of HT_.out (by kernel_rfl)) (fun _ _ _ h => h) (Or.inl ⟨by rfl, ?_⟩) ?_ ?_
                                                      rotate_left
                                                      · intro w'
                                                        go_simp
                                                        with_reducible rfl
                                                      rotate_left
                                                      · simp only [Act.put, List.setIfInBounds_toArray, List.set_cons_zero, List.set_cons_succ, i64_w, i32_w]
                                                        rfl
                                                      refine take_ (i := 6) (N := some 162) (v := ?_) (a' := ?_) #[true, true, true, true, true, true, true, false, false, false, false, false, false, false, false, false, false, false, false, false, false, false, false, false, false, false, false, false, false, false, false, false, false, false, false, false, false] rfl rfl (take_ofW HT_.out HW_.out (by kernel_rfl)) (fun _ _ _ h => h) (Or.inl ⟨by rfl, ?_⟩) hHeld ?_ ?_
                                                      rotate_left
                                                      · rintro w' ⟨s0, s1, s2⟩
                                                        go_simp
                                                        with_reducible rfl
                                                      rotate_left
                                                      · simp only [Act.put, List.setIfInBounds_toArray, List.set_cons_zero, List.set_cons_succ, i64_w, i32_w]
                                                        rfl
                                                      refine pure_ (i := 7) (N := some 163) (v := ?_) (a' := ?_) #[true, true, true, true, true, true, true, true, false, false, false, false, false, false, false, false, false, false, false, false, false, false, false, false, false, false, false, false, false, false, false, false, false, false, false, false, false] rfl rfl (any_of HT_.out (by kernel_rfl)) (fun _ _ _ h => h) (Or.inl ⟨by rfl, ?_⟩) ?_ ?_
                                                      rotate_left
                                                      · intro w'
                                                        go_simp
                                                        with_reducible rfl
                                                      rotate_left
                                                      · simp only [Act.put, List.setIfInBounds_toArray, List.set_cons_zero, List.set_cons_succ, i64_w, i32_w]
                                                        rfl
                                                      refine pure_ (i := 8) (N := some 164) (v := ?_) (a' := ?_) #[true, true, true, true, true, true, true, true, true, false, false, false, false, false, false, false, false, false, false, false, false, false, false, false, false, false, false, false, false, false, false, false, false, false, false, false, false] rfl rfl (any_of HT_.out (by kernel_rfl)) (fun _ _ _ h => h) (Or.inl ⟨by rfl, ?_⟩) ?_ ?_
                                                      rotate_left
                                                      · intro w'
                                                        go_simp
                                                        with_reducible rfl
                                                      rotate_left
                                                      · simp only [Act.put, List.setIfInBounds_toArray, List.set_cons_zero, List.set_cons_succ, i64_w, i32_w]
                                                        rfl
                                                      refine pure_ (i := 9) (N := some 165) (v := ?_) (a' := ?_) #[true, true, true, true, true, true, true, true, true, true, false, false, false, false, false, false, false, false, false, false, false, false, false, false, false, false, false, false, false, false, false, false, false, false, false, false, false] rfl rfl (any_of HT_.out (by kernel_rfl)) (fun _ _ _ h => h) (Or.inl ⟨by rfl, ?_⟩) ?_ ?_
                                                      rotate_left
                                                      · intro w'
                                                        go_simp
                                                        with_reducible rfl
                                                      rotate_left
                                                      · simp only [Act.put, List.setIfInBounds_toArray, List.set_cons_zero, List.set_cons_succ, i64_w, i32_w]
                                                        rfl
                                                      refine pure_ (i := 10) (N := some 166) (v := ?_) (a' := ?_) #[true, true, true, true, true, true, true, true, true, true, true, false, false, false, false, false, false, false, false, false, false, false, false, false, false, false, false, false, false, false, false, false, false, false, false, false, false] rfl rfl (any_of HT_.out (by kernel_rfl)) (fun _ _ _ h => h) (Or.inl ⟨by rfl, ?_⟩) ?_ ?_
                                                      rotate_left
                                                      · intro w'
                                                        go_simp
                                                        with_reducible rfl
                                                      rotate_left
                                                      · simp only [Act.put, List.setIfInBounds_toArray, List.set_cons_zero, List.set_cons_succ, i64_w, i32_w]
                                                        rfl
                                                      refine pure_ (i := 11) (N := some 167) (v := ?_) (a' := ?_) #[true, true, true, true, true, true, true, true, true, true, true, true, false, false, false, false, false, false, false, false, false, false, false, false, false, false, false, false, false, false, false, false, false, false, false, false, false] rfl rfl (any_of HT_.out (by kernel_rfl)) (fun _ _ _ h => h) (Or.inl ⟨by rfl, ?_⟩) ?_ ?_
                                                      rotate_left
                                                      · intro w'
                                                        go_simp
                                                        with_reducible rfl
                                                      rotate_left
                                                      · simp only [Act.put, List.setIfInBounds_toArray, List.set_cons_zero, List.set_cons_succ, i64_w, i32_w]
                                                        rfl
                                                      refine pure_ (i := 12) (N := some 168) (v := ?_) (a' := ?_) #[true, true, true, true, true, true, true, true, true, true, true, true, true, false, false, false, false, false, false, false, false, false, false, false, false, false, false, false, false, false, false, false, false, false, false, false, false] rfl rfl (any_of HT_.out (by kernel_rfl)) (fun _ _ _ h => h) (Or.inl ⟨by rfl, ?_⟩) ?_ ?_
                                                      rotate_left
                                                      · intro w'
                                                        go_simp
                                                        with_reducible rfl
                                                      rotate_left
                                                      · simp only [Act.put, List.setIfInBounds_toArray, List.set_cons_zero, List.set_cons_succ, i64_w, i32_w]
                                                        rfl
                                                      refine pure_ (i := 13) (N := some 169) (v := ?_) (a' := ?_) #[true, true, true, true, true, true, true, true, true, true, true, true, true, true, false, false, false, false, false, false, false, false, false, false, false, false, false, false, false, false, false, false, false, false, false, false, false] rfl rfl (any_of HT_.out (by kernel_rfl)) (fun _ _ _ h => h) (Or.inl ⟨by rfl, ?_⟩) ?_ ?_
                                                      rotate_left
                                                      · intro w'
                                                        go_simp
                                                        with_reducible rfl
                                                      rotate_left
                                                      · simp only [Act.put, List.setIfInBounds_toArray, List.set_cons_zero, List.set_cons_succ, i64_w, i32_w]
                                                        rfl
                                                      refine pure_ (i := 14) (N := some 170) (v := ?_) (a' := ?_) #[true, true, true, true, true, true, true, true, true, true, true, true, true, true, true, false, false, false, false, false, false, false, false, false, false, false, false, false, false, false, false, false, false, false, false, false, false] rfl rfl (any_of HT_.out (by kernel_rfl)) (fun _ _ _ h => h) (Or.inl ⟨by rfl, ?_⟩) ?_ ?_
                                                      rotate_left
                                                      · intro w'
                                                        go_simp
                                                        with_reducible rfl
                                                      rotate_left
                                                      · simp only [Act.put, List.setIfInBounds_toArray, List.set_cons_zero, List.set_cons_succ, i64_w, i32_w]
                                                        rfl
                                                      refine pure_ (i := 15) (N := some 171) (v := ?_) (a' := ?_) #[true, true, true, true, true, true, true, true, true, true, true, true, true, true, true, true, false, false, false, false, false, false, false, false, false, false, false, false, false, false, false, false, false, false, false, false, false] rfl rfl (any_of HT_.out (by kernel_rfl)) (fun _ _ _ h => h) (Or.inl ⟨by rfl, ?_⟩) ?_ ?_
                                                      rotate_left
                                                      · intro w'
                                                        go_simp
                                                        with_reducible rfl
                                                      rotate_left
                                                      · simp only [Act.put, List.setIfInBounds_toArray, List.set_cons_zero, List.set_cons_succ, i64_w, i32_w]
                                                        rfl
                                                      refine pure_ (i := 16) (N := some 172) (v := ?_) (a' := ?_) #[true, true, true, true, true, true, true, true, true, true, true, true, true, true, true, true, true, false, false, false, false, false, false, false, false, false, false, false, false, false, false, false, false, false, false, false, false] rfl rfl (any_of HT_.out (by kernel_rfl)) (fun _ _ _ h => h) (Or.inl ⟨by rfl, ?_⟩) ?_ ?_
                                                      rotate_left
                                                      · intro w'
                                                        go_simp
                                                        with_reducible rfl
                                                      rotate_left
                                                      · simp only [Act.put, List.setIfInBounds_toArray, List.set_cons_zero, List.set_cons_succ, i64_w, i32_w]
                                                        rfl
                                                      refine pure_ (i := 17) (N := some 173) (v := ?_) (a' := ?_) #[true, true, true, true, true, true, true, true, true, true, true, true, true, true, true, true, true, true, false, false, false, false, false, false, false, false, false, false, false, false, false, false, false, false, false, false, false] rfl rfl (any_of HT_.out (by kernel_rfl)) (fun _ _ _ h => h) (Or.inl ⟨by rfl, ?_⟩) ?_ ?_
                                                      rotate_left
                                                      · intro w'
                                                        go_simp
                                                        with_reducible rfl
                                                      rotate_left
                                                      · simp only [Act.put, List.setIfInBounds_toArray, List.set_cons_zero, List.set_cons_succ, i64_w, i32_w]
                                                        rfl
                                                      refine pure_ (i := 18) (N := some 174) (v := ?_) (a' := ?_) #[true, true, true, true, true, true, true, true, true, true, true, true, true, true, true, true, true, true, true, false, false, false, false, false, false, false, false, false, false, false, false, false, false, false, false, false, false] rfl rfl (any_of HT_.out (by kernel_rfl)) (fun _ _ _ h => h) (Or.inl ⟨by rfl, ?_⟩) ?_ ?_
                                                      rotate_left
                                                      · intro w'
                                                        go_simp
                                                        with_reducible rfl
                                                      rotate_left
                                                      · simp only [Act.put, List.setIfInBounds_toArray, List.set_cons_zero, List.set_cons_succ, i64_w, i32_w]
                                                        rfl
                                                      refine pure_ (i := 19) (N := some 175) (v := ?_) (a' := ?_) #[true, true, true, true, true, true, true, true, true, true, true, true, true, true, true, true, true, true, true, true, false, false, false, false, false, false, false, false, false, false, false, false, false, false, false, false, false] rfl rfl (any_of HT_.out (by kernel_rfl)) (fun _ _ _ h => h) (Or.inl ⟨by rfl, ?_⟩) ?_ ?_
                                                      rotate_left
                                                      · intro w'
                                                        go_simp
                                                        with_reducible rfl
                                                      rotate_left
                                                      · simp only [Act.put, List.setIfInBounds_toArray, List.set_cons_zero, List.set_cons_succ, i64_w, i32_w]
                                                        rfl
                                                      refine pure_ (i := 20) (N := some 176) (v := ?_) (a' := ?_) #[true, true, true, true, true, true, true, true, true, true, true, true, true, true, true, true, true, true, true, true, true, false, false, false, false, false, false, false, false, false, false, false, false, false, false, false, false] rfl rfl (any_of HT_.out (by kernel_rfl)) (fun _ _ _ h => h) (Or.inl ⟨by rfl, ?_⟩) ?_ ?_
                                                      rotate_left
                                                      · intro w'
                                                        go_simp
                                                        with_reducible rfl
                                                      rotate_left
                                                      · simp only [Act.put, List.setIfInBounds_toArray, List.set_cons_zero, List.set_cons_succ, i64_w, i32_w]
                                                        rfl
                                                      refine pure_ (i := 21) (N := some 177) (v := ?_) (a' := ?_) #[true, true, true, true, true, true, true, true, true, true, true, true, true, true, true, true, true, true, true, true, true, true, false, false, false, false, false, false, false, false, false, false, false, false, false, false, false] rfl rfl (any_of HT_.out (by kernel_rfl)) (fun _ _ _ h => h) (Or.inl ⟨by rfl, ?_⟩) ?_ ?_
                                                      rotate_left
                                                      · intro w'
                                                        go_simp
                                                        with_reducible rfl
                                                      rotate_left
                                                      · simp only [Act.put, List.setIfInBounds_toArray, List.set_cons_zero, List.set_cons_succ, i64_w, i32_w]
                                                        rfl
                                                      refine pure_ (i := 22) (N := some 178) (v := ?_) (a' := ?_) #[true, true, true, true, true, true, true, true, true, true, true, true, true, true, true, true, true, true, true, true, true, true, true, false, false, false, false, false, false, false, false, false, false, false, false, false, false] rfl rfl (any_of HT_.out (by kernel_rfl)) (fun _ _ _ h => h) (Or.inl ⟨by rfl, ?_⟩) ?_ ?_
                                                      rotate_left
                                                      · intro w'
                                                        go_simp
                                                        with_reducible rfl
                                                      rotate_left
                                                      · simp only [Act.put, List.setIfInBounds_toArray, List.set_cons_zero, List.set_cons_succ, i64_w, i32_w]
                                                        rfl
                                                      refine pure_ (i := 23) (N := some 179) (v := ?_) (a' := ?_) #[true, true, true, true, true, true, true, true, true, true, true, true, true, true, true, true, true, true, true, true, true, true, true, true, false, false, false, false, false, false, false, false, false, false, false, false, false] rfl rfl (any_of HT_.out (by kernel_rfl)) (fun _ _ _ h => h) (Or.inl ⟨by rfl, ?_⟩) ?_ ?_
                                                      rotate_left
                                                      · intro w'
                                                        go_simp
                                                        with_reducible rfl
                                                      rotate_left
                                                      · simp only [Act.put, List.setIfInBounds_toArray, List.set_cons_zero, List.set_cons_succ, i64_w, i32_w]
                                                        rfl
                                                      refine pure_ (i := 24) (N := some 180) (v := ?_) (a' := ?_) #[true, true, true, true, true, true, true, true, true, true, true, true, true, true, true, true, true, true, true, true, true, true, true, true, true, false, false, false, false, false, false, false, false, false, false, false, false] rfl rfl (any_of HT_.out (by kernel_rfl)) (fun _ _ _ h => h) (Or.inl ⟨by rfl, ?_⟩) ?_ ?_
                                                      rotate_left
                                                      · intro w'
                                                        go_simp
                                                        with_reducible rfl
                                                      rotate_left
                                                      · simp only [Act.put, List.setIfInBounds_toArray, List.set_cons_zero, List.set_cons_succ, i64_w, i32_w]
                                                        rfl
                                                      refine pure_ (i := 25) (N := some 181) (v := ?_) (a' := ?_) #[true, true, true, true, true, true, true, true, true, true, true, true, true, true, true, true, true, true, true, true, true, true, true, true, true, true, false, false, false, false, false, false, false, false, false, false, false] rfl rfl (any_of HT_.out (by kernel_rfl)) (fun _ _ _ h => h) (Or.inl ⟨by rfl, ?_⟩) ?_ ?_
                                                      rotate_left
                                                      · intro w'
                                                        go_simp
                                                        with_reducible rfl
                                                      rotate_left
                                                      · simp only [Act.put, List.setIfInBounds_toArray, List.set_cons_zero, List.set_cons_succ, i64_w, i32_w]
                                                        rfl
                                                      refine pure_ (i := 26) (N := some 182) (v := ?_) (a' := ?_) #[true, true, true, true, true, true, true, true, true, true, true, true, true, true, true, true, true, true, true, true, true, true, true, true, true, true, true, false, false, false, false, false, false, false, false, false, false] rfl rfl (any_of HT_.out (by kernel_rfl)) (fun _ _ _ h => h) (Or.inl ⟨by rfl, ?_⟩) ?_ ?_
                                                      rotate_left
                                                      · intro w'
                                                        go_simp
                                                        with_reducible rfl
                                                      rotate_left
                                                      · simp only [Act.put, List.setIfInBounds_toArray, List.set_cons_zero, List.set_cons_succ, i64_w, i32_w]
                                                        rfl
                                                      refine pure_ (i := 27) (N := some 183) (v := ?_) (a' := ?_) #[true, true, true, true, true, true, true, true, true, true, true, true, true, true, true, true, true, true, true, true, true, true, true, true, true, true, true, true, false, false, false, false, false, false, false, false, false] rfl rfl (any_of HT_.out (by kernel_rfl)) (fun _ _ _ h => h) (Or.inl ⟨by rfl, ?_⟩) ?_ ?_
                                                      rotate_left
                                                      · intro w'
                                                        go_simp
                                                        with_reducible rfl
                                                      rotate_left
                                                      · simp only [Act.put, List.setIfInBounds_toArray, List.set_cons_zero, List.set_cons_succ, i64_w, i32_w]
                                                        rfl
                                                      refine pure_ (i := 28) (N := some 184) (v := ?_) (a' := ?_) #[true, true, true, true, true, true, true, true, true, true, true, true, true, true, true, true, true, true, true, true, true, true, true, true, true, true, true, true, true, false, false, false, false, false, false, false, false] rfl rfl (any_of HT_.out (by kernel_rfl)) (fun _ _ _ h => h) (Or.inl ⟨by rfl, ?_⟩) ?_ ?_
                                                      rotate_left
                                                      · intro w'
                                                        go_simp
                                                        with_reducible rfl
                                                      rotate_left
                                                      · simp only [Act.put, List.setIfInBounds_toArray, List.set_cons_zero, List.set_cons_succ, i64_w, i32_w]
                                                        rfl
                                                      refine pure_ (i := 30) (N := some 186) (v := ?_) (a' := ?_) #[true, true, true, true, true, true, true, true, true, true, true, true, true, true, true, true, true, true, true, true, true, true, true, true, true, true, true, true, true, false, true, false, false, false, false, false, false] rfl rfl (any_of HT_.out (by kernel_rfl)) (fun _ _ _ h => h) (Or.inl ⟨by rfl, ?_⟩) ?_ ?_
                                                      rotate_left
                                                      · intro w'
                                                        go_simp
                                                        with_reducible rfl
                                                      rotate_left
                                                      · simp only [Act.put, List.setIfInBounds_toArray, List.set_cons_zero, List.set_cons_succ, i64_w, i32_w]
                                                        rfl
                                                      refine pure_ (i := 31) (N := some 187) (v := ?_) (a' := ?_) #[true, true, true, true, true, true, true, true, true, true, true, true, true, true, true, true, true, true, true, true, true, true, true, true, true, true, true, true, true, false, true, true, false, false, false, false, false] rfl rfl (any_of HT_.out (by kernel_rfl)) (fun _ _ _ h => h) (Or.inl ⟨by rfl, ?_⟩) ?_ ?_
                                                      rotate_left
                                                      · intro w'
                                                        go_simp
                                                        with_reducible rfl
                                                      rotate_left
                                                      · simp only [Act.put, List.setIfInBounds_toArray, List.set_cons_zero, List.set_cons_succ, i64_w, i32_w]
                                                        rfl
                                                      refine pure_ (i := 32) (N := some 188) (v := ?_) (a' := ?_) #[true, true, true, true, true, true, true, true, true, true, true, true, true, true, true, true, true, true, true, true, true, true, true, true, true, true, true, true, true, false, true, true, true, false, false, false, false] rfl rfl (any_of HT_.out (by kernel_rfl)) (fun _ _ _ h => h) (Or.inl ⟨by rfl, ?_⟩) ?_ ?_
                                                      rotate_left
                                                      · intro w'
                                                        go_simp
                                                        with_reducible rfl
                                                      rotate_left
                                                      · simp only [Act.put, List.setIfInBounds_toArray, List.set_cons_zero, List.set_cons_succ, i64_w, i32_w]
                                                        rfl
                                                      refine take_ (i := 29) (N := some 185) (v := ?_) (a' := ?_) #[true, true, true, true, true, true, true, true, true, true, true, true, true, true, true, true, true, true, true, true, true, true, true, true, true, true, true, true, true, true, true, true, true, false, false, false, false] rfl rfl (take_ofW HT_.out HW_.out (by kernel_rfl)) (fun _ _ _ h => h) (Or.inl ⟨by rfl, ?_⟩) hHeld ?_ ?_
                                                      rotate_left
                                                      · rintro w' ⟨s0, s1, s2⟩
                                                        go_simp
                                                        with_reducible rfl
                                                      rotate_left
                                                      · simp only [Act.put, List.setIfInBounds_toArray, List.set_cons_zero, List.set_cons_succ, i64_w, i32_w]
                                                        rfl
                                                      refine take_ (i := 33) (N := some 189) (v := ?_) (a' := ?_) #[true, true, true, true, true, true, true, true, true, true, true, true, true, true, true, true, true, true, true, true, true, true, true, true, true, true, true, true, true, true, true, true, true, true, false, false, false] rfl rfl (take_ofW HT_.out HW_.out (by kernel_rfl)) (fun _ _ _ h => h) (Or.inl ⟨by rfl, ?_⟩) hHeld ?_ ?_
                                                      rotate_left
                                                      · rintro w' ⟨s0, s1, s2⟩
                                                        go_simp
                                                        with_reducible rfl
                                                      rotate_left
                                                      · simp only [Act.put, List.setIfInBounds_toArray, List.set_cons_zero, List.set_cons_succ, i64_w, i32_w]
                                                        rfl
                                                      refine pure_ (i := 34) (N := some 190) (v := ?_) (a' := ?_) #[true, true, true, true, true, true, true, true, true, true, true, true, true, true, true, true, true, true, true, true, true, true, true, true, true, true, true, true, true, true, true, true, true, true, true, false, false] rfl rfl (any_of HT_.out (by kernel_rfl)) (fun _ _ _ h => h) (Or.inl ⟨by rfl, ?_⟩) ?_ ?_
                                                      rotate_left
                                                      · intro w'
                                                        go_simp
                                                        with_reducible rfl
                                                      rotate_left
                                                      · simp only [Act.put, List.setIfInBounds_toArray, List.set_cons_zero, List.set_cons_succ, i64_w, i32_w]
                                                        rfl
                                                      refine pure_ (i := 35) (N := some 191) (v := ?_) (a' := ?_) #[true, true, true, true, true, true, true, true, true, true, true, true, true, true, true, true, true, true, true, true, true, true, true, true, true, true, true, true, true, true, true, true, true, true, true, true, false] rfl rfl (any_of HT_.out (by kernel_rfl)) (fun _ _ _ h => h) (Or.inl ⟨by rfl, ?_⟩) ?_ ?_
                                                      rotate_left
                                                      · intro w'
                                                        go_simp
                                                        with_reducible rfl
                                                      rotate_left
                                                      · simp only [Act.put, List.setIfInBounds_toArray, List.set_cons_zero, List.set_cons_succ, i64_w, i32_w]
                                                        rfl
                                                      refine pure_ (i := 36) (N := some 192) (v := ?_) (a' := ?_) #[true, true, true, true, true, true, true, true, true, true, true, true, true, true, true, true, true, true, true, true, true, true, true, true, true, true, true, true, true, true, true, true, true, true, true, true, true] rfl rfl (any_of HT_.out (by kernel_rfl)) (fun _ _ _ h => h) (Or.inl ⟨by rfl, ?_⟩) ?_ ?_
                                                      rotate_left
                                                      · intro w'
                                                        go_simp
                                                        with_reducible rfl
                                                      rotate_left
                                                      · simp only [Act.put, List.setIfInBounds_toArray, List.set_cons_zero, List.set_cons_succ, i64_w, i32_w]
                                                        rfl
                                                      refine done_ (done_of HT_.out (by kernel_rfl)) ?_
                                                      try go_wp2
                                                      go_meet
                                                      case rel => exact ⟨_, H', ⟨by have := HJ8.out; have := HK2.out; first | omega | exact Nat.le_refl _⟩, ⟨by repeat (first | (with_reducible first | exact HB.out | apply below_alloc | apply pw_below_drewN | apply below_drew1) | exact HB.out)⟩⟩
                                                  · rw [if_neg c75] at H
                                                    exact absurd H (by simp)
                                                · rw [if_neg c74] at H
                                                  exact absurd H (by simp)
                                              · replace c73 := Bool.eq_false_iff.mpr c73
                                                subst c73
                                                have H1 : (none) = some r := by rw [if_neg (show ¬ (false = true) by decide)] at H; exact H
                                                clear H
                                                have H := H1
                                                clear H1
                                                exact absurd H (by simp)
                                            · rw [if_neg c72] at H
                                              have c72b0 : (x19_2 == (t352.length : Int)) = false := beq_eq_false_iff_ne.mpr c72
                                              have c72b1 : (x19_2 != (t352.length : Int)) = true := bne_iff_ne.mpr c72
                                              exact absurd H (by simp)
                                          · replace c71 := Bool.eq_false_iff.mpr c71
                                            subst c71
                                            have H1 : (none) = some r := by rw [if_neg (show ¬ (false = true) by decide)] at H; exact H
                                            clear H
                                            have H := H1
                                            clear H1
                                            exact absurd H (by simp)
                                        · rw [if_neg c70] at H
                                          have c70b0 : (t327 == (rd t319 0)) = false := beq_eq_false_iff_ne.mpr c70
                                          have c70b1 : (t327 != (rd t319 0)) = true := bne_iff_ne.mpr c70
                                          exact absurd H (by simp)
                                      · rw [if_neg c69] at H
                                        exact absurd H (by simp)
                                    · replace c68 := Bool.eq_false_iff.mpr c68
                                      subst c68
                                      have H1 : (none) = some r := by rw [if_neg (show ¬ (false = true) by decide)] at H; exact H
                                      clear H
                                      have H := H1
                                      clear H1
                                      exact absurd H (by simp)
                            · rw [if_neg c44] at H
                              exact absurd H (by simp)
                          · rw [if_neg c43] at H
                            exact absurd H (by simp)
                        · rw [if_neg c42] at H
                          exact absurd H (by simp)
                      · rw [if_neg c40] at H
                        exact absurd H (by simp)
                    · rw [if_neg c39] at H
                      exact absurd H (by simp)
                  · rw [if_neg c38] at H
                    exact absurd H (by simp)
              · rw [if_neg c34] at H
                have c34b0 : decide (1 < (t315.length : Int)) = false := decide_eq_false c34
                have c34b1 : decide (1 < t315.length) = false := decide_eq_false (by omega)
                clear c34
                (first | rw [c34b0] | (simp only [i64_w, i32_w]; rw [c34b0]) | skip)
                have H' := Aside0.mk H
                clear H
                go_wp2
                go_meet
                case rel => exact ⟨_, H', ⟨by have := HJ8.out; first | omega | exact Nat.le_refl _⟩, ⟨by repeat (first | (with_reducible first | exact HB.out | apply below_alloc | apply pw_below_drewN | apply below_drew1) | exact HB.out)⟩⟩
            case rest =>
              clear HC33
              try clear c2
              try clear p2
              try clear c3
              try clear p3
              try clear q3
              try clear hx3
              try clear qi3
              try clear c4
              try clear q4
              try clear c5
              try clear c6
              try clear p6
              try clear c7
              try clear c20
              try clear c34
              try clear c34b0
              try clear c34b1
              try clear p36
              try clear q36
              try clear hx36
              try clear qi36
              try clear c38
              try clear c39
              try clear c40
              try clear c42
              try clear c43
              try clear c44
              try clear q47
              try clear q48
              try clear c56
              try clear c56b0
              try clear c57
              try clear c57b0
              try clear c58
              try clear c58b0
              try clear c59
              try clear c59b0
              try clear c60
              try clear c60b0
              try clear c61
              try clear c61b0
              try clear c61b1
              try clear c62
              try clear c62b0
              try clear c63
              try clear c63b0
              try clear c64
              try clear c64b0
              try clear p64
              try clear c65
              try clear c65b0
              try clear c65b1
              try clear c68
              try clear c69
              try clear c69b0
              try clear c69b1
              try clear c70
              try clear c70b0
              try clear c70b1
              try clear c71
              try clear c72
              try clear c72b0
              try clear c72b1
              try clear c73
              try clear c74
              try clear c74b0
              try clear c75
              try clear c75b0
              try clear c76
              try clear c76b0
              try clear c76b1
              try clear c76b2
              try clear hx363_0
              try clear hx364_0
              try clear hx365_0
              try clear hx366_0
              try clear hx367_0
              try clear hx368_0
              try clear p363
              try clear p364
              try clear p365
              try clear p366
              try clear p367
              try clear p368
              try clear p6
              try clear q048
              try clear q363
              try clear q364
              try clear q365
              try clear q366
              try clear q367
              try clear q368
              try clear q47
              try clear q48
              obtain ⟨kq, HA, HJ32, HB⟩ := hcut
              cases kq with
              | zero => exact absurd HA.out (by simp [laws_FnRendezvous.j2])
              | succ kj32 =>
                have H := HA.out
                clear HA
                simp only [laws_FnRendezvous.j2] at H
                replace H := Option.bind_eq_some_iff.mp H
                obtain ⟨⟨t369, t372, t375⟩, A840, H⟩ := H
                replace H : ((impl_MovedKeys.f kj32 t369 t372 t375).bind fun bt378 => ((spec_MovedKeys.f kj32 t369 t372 t375).bind fun bt382 => ((impl_MovedKeys.f kj32 t369 t375 t372).bind fun bt386 => (if (bt378.2 == bt382.2) = true then ((laws_sameTexts.f kj32 bt378.1 bt382.1).bind fun t390 => (if t390 = true then (if (bt386.2 == bt378.2) = true then ((laws_sameTexts.f kj32 bt386.1 bt378.1).bind fun t391 => (some t391)) else (none)) else (none))) else (none))))) = some r := H
                have A84 := Aside0.mk A840
                clear A840
                replace H := Option.bind_eq_some_iff.mp H
                obtain ⟨⟨t378, t379⟩, A850, H⟩ := H
                replace H : ((spec_MovedKeys.f kj32 t369 t372 t375).bind fun bt382 => ((impl_MovedKeys.f kj32 t369 t375 t372).bind fun bt386 => (if (t379 == bt382.2) = true then ((laws_sameTexts.f kj32 t378 bt382.1).bind fun t390 => (if t390 = true then (if (bt386.2 == t379) = true then ((laws_sameTexts.f kj32 bt386.1 t378).bind fun t391 => (some t391)) else (none)) else (none))) else (none)))) = some r := H
                have A85 := Aside0.mk A850
                clear A850
                replace H := Option.bind_eq_some_iff.mp H
                obtain ⟨⟨t382, t383⟩, A860, H⟩ := H
                replace H : ((impl_MovedKeys.f kj32 t369 t375 t372).bind fun bt386 => (if (t379 == t383) = true then ((laws_sameTexts.f kj32 t378 t382).bind fun t390 => (if t390 = true then (if (bt386.2 == t379) = true then ((laws_sameTexts.f kj32 bt386.1 t378).bind fun t391 => (some t391)) else (none)) else (none))) else (none))) = some r := H
                have A86 := Aside0.mk A860
                clear A860
                replace H := Option.bind_eq_some_iff.mp H
                obtain ⟨⟨t386, t387⟩, A870, H⟩ := H
                replace H : (if (t379 == t383) = true then ((laws_sameTexts.f kj32 t378 t382).bind fun t390 => (if t390 = true then (if (t387 == t379) = true then ((laws_sameTexts.f kj32 t386 t378).bind fun t391 => (some t391)) else (none)) else (none))) else (none)) = some r := H
                have A87 := Aside0.mk A870
                clear A870
                by_cases c88 : (t379 == t383) = true
                · rw [if_pos c88] at H
                  have c88b0 : (t379 == t383) = true := c88
                  (try (have c88b1 : decide (t379 = t383) = true := by simpa using c88))
                  (try (have c88b2 : (t379 == t383) = true := by simpa using c88))
                  clear c88
                  replace H := Option.bind_eq_some_iff.mp H
                  obtain ⟨t390, A890, H⟩ := H
                  replace H : (if t390 = true then (if (t387 == t379) = true then ((laws_sameTexts.f kj32 t386 t378).bind fun t391 => (some t391)) else (none)) else (none)) = some r := H
                  have A89 := Aside0.mk A890
                  clear A890
                  by_cases c90 : t390 = true
                  · subst c90
                    have H1 : (if (t387 == t379) = true then ((laws_sameTexts.f kj32 t386 t378).bind fun t391 => (some t391)) else (none)) = some r := by rw [if_pos rfl] at H; exact H
                    clear H
                    have H := H1
                    clear H1
                    by_cases c91 : (t387 == t379) = true
                    · rw [if_pos c91] at H
                      have c91b0 : (t387 == t379) = true := c91
                      (try (have c91b1 : decide (t387 = t379) = true := by simpa using c91))
                      (try (have c91b2 : (t387 == t379) = true := by simpa using c91))
                      clear c91
                      replace H := Option.bind_eq_some_iff.mp H
                      obtain ⟨t391, A920, H⟩ := H
                      replace H : (some t391) = some r := H
                      have A92 := Aside0.mk A920
                      clear A920
                      obtain rfl := Option.some.inj H
                      go_wp2_with (first | ((with_reducible refine gate_callee (f := 29) rfl ?_); refine goesL_ (some 195) rfl rfl Tryd.func29 (by kernel_rfl) rfl #[.slice A1 l1.length c1] rfl (by (try simp only [List.map_toArray, List.map_cons, List.map_nil]); first | done | rfl | (simp only [List.length_drop, List.length_take]; rfl)) ?_; (with_reducible refine (spec_DrawMovedKeys.calls kj32 _ _ l1 t369 t372 t375 _ ?side1 ?side2 A84.out).mono ?_); (case side1 => repeat (first | exact (Kd.C_below HR1.out HB.out) | (with_reducible refine Kd.C_alloc ?_ _) | (with_reducible refine Kd.C_drewN ?_ _) | (with_reducible refine Kd.C_drew ?_))); (case side2 => exact HC1.out); rintro e w93 ⟨v370, v373, v376, rfl, ho0, ho1, ho2, hb⟩; refine ⟨_, rfl, ?_⟩; have n0_ := Aside0.mk (Kd.R_lower (Kd.R_mono (ok' := fun k_ => True) ho0 (fun _ hk_ => trivial)) (below_size (by repeat (first | (with_reducible first | exact HB.out | apply below_alloc | apply pw_below_drewN | apply below_drew1) | exact HB.out)))); have n1_ := Aside0.mk (Kd.V_lower (Kd.V_mono (ok' := fun k_ => some k_ ≠ (v370 : Value).ownBlock) ho1 (fun k_ hk_ => hk_.2)) (below_size (by repeat (first | (with_reducible first | exact HB.out | apply below_alloc | apply pw_below_drewN | apply below_drew1) | exact HB.out)))); have n2_ := Aside0.mk (Kd.V_lower (Kd.V_mono (ok' := fun k_ => some k_ ≠ (v370 : Value).ownBlock) ho2 (fun k_ hk_ => hk_.2)) (below_size (by repeat (first | (with_reducible first | exact HB.out | apply below_alloc | apply pw_below_drewN | apply below_drew1) | exact HB.out)))); have n3_ := Aside0.mk (below_step (by repeat (first | (with_reducible first | exact HB.out | apply below_alloc | apply pw_below_drewN | apply below_drew1) | exact HB.out)) hb); clear HB; have HO371 := n0_; have HO374 := n1_; have HO377 := n2_; have HB := n3_; clear n0_ n1_ n2_ n3_; (try clear hb); (try clear hb2); (try clear hk); (try clear hi); (try clear ho0); (try clear ho1); (try clear ho2); obtain ⟨Ao94, co94, eo94⟩ := Kd.R_slice HO371.out; subst eo94; obtain ⟨Ao95, co95, eo95⟩ := Kd.V_slice HO374.out; subst eo95; obtain ⟨Ao96, co96, eo96⟩ := Kd.V_slice HO377.out; subst eo96) | ((with_reducible refine gate_callee (f := 20) rfl ?_); refine goesL_ (some 203) rfl rfl Tryd.func20 (by kernel_rfl) rfl #[.slice Ao94 t369.length co94, .slice Ao95 t372.length co95, .slice Ao96 t375.length co96] rfl (by (try simp only [List.map_toArray, List.map_cons, List.map_nil]); first | done | rfl | (simp only [List.length_drop, List.length_take]; rfl)) ?_; (with_reducible refine (impl_MovedKeys.calls kj32 _ _ t369 _ _ t372 _ _ t375 t378 t379 _ ?side1 ?side2 ?side3 ?side4 ?side5 ?side6 A85.out).mono ?_); (case side1 => repeat (first | exact (Kd.R_reads' HO371.out).2.2 | (with_reducible refine Kd.C_alloc ?_ _) | (with_reducible refine Kd.C_drewN ?_ _) | (with_reducible refine Kd.C_drew ?_))); (case side2 => exact (Kd.R_reads' HO371.out).2.1); (case side3 => repeat (first | exact (Kd.V_reads' HO374.out).2.2 | (with_reducible refine Kd.C_alloc ?_ _) | (with_reducible refine Kd.C_drewN ?_ _) | (with_reducible refine Kd.C_drew ?_))); (case side4 => exact (Kd.V_reads' HO374.out).2.1); (case side5 => repeat (first | exact (Kd.V_reads' HO377.out).2.2 | (with_reducible refine Kd.C_alloc ?_ _) | (with_reducible refine Kd.C_drewN ?_ _) | (with_reducible refine Kd.C_drew ?_))); (case side6 => exact (Kd.V_reads' HO377.out).2.1); rintro e w97 ⟨v380, rfl, ho0, hb⟩; refine ⟨_, rfl, ?_⟩; have n0_ := Aside0.mk (Kd.R_elder' (by (with_reducible repeat (first | apply Kd.R_alloc | apply Kd.R_drewN | apply Kd.R_drew)); exact HO371.out) (Kd.R_base ho0) hb); have n1_ := Aside0.mk (Kd.V_elder' (by (with_reducible repeat (first | apply Kd.V_alloc | apply Kd.V_drewN | apply Kd.V_drew)); exact HO374.out) (Kd.R_base ho0) hb); have n2_ := Aside0.mk (Kd.V_elder' (by (with_reducible repeat (first | apply Kd.V_alloc | apply Kd.V_drewN | apply Kd.V_drew)); exact HO377.out) (Kd.R_base ho0) hb); have n3_ := Aside0.mk (Kd.R_lower (Kd.R_new' ho0 (Kd.R_lt (by (with_reducible repeat (first | apply Kd.R_alloc | apply Kd.R_drewN | apply Kd.R_drew)); exact HO371.out))) (below_size (by repeat (first | (with_reducible first | exact HB.out | apply below_alloc | apply pw_below_drewN | apply below_drew1) | exact HB.out)))); have n4_ := Aside0.mk (below_step (by repeat (first | (with_reducible first | exact HB.out | apply below_alloc | apply pw_below_drewN | apply below_drew1) | exact HB.out)) hb); clear HO371; clear HO374; clear HO377; clear HB; have HO371 := n0_; have HO374 := n1_; have HO377 := n2_; have HO381 := n3_; have HB := n4_; clear n0_ n1_ n2_ n3_ n4_; (try clear hb); (try clear hb2); (try clear hk); (try clear hi); (try clear ho0)) | ((with_reducible refine gate_callee (f := 18) rfl ?_); refine goesL_ (some 210) rfl rfl Tryd.func18 (by kernel_rfl) rfl #[.slice Ao94 t369.length co94, .slice Ao95 t372.length co95, .slice Ao96 t375.length co96] rfl (by (try simp only [List.map_toArray, List.map_cons, List.map_nil]); first | done | rfl | (simp only [List.length_drop, List.length_take]; rfl)) ?_; (with_reducible refine (spec_MovedKeys.calls kj32 _ _ t369 _ _ t372 _ _ t375 t382 t383 _ ?side1 ?side2 ?side3 ?side4 ?side5 ?side6 A86.out).mono ?_); (case side1 => repeat (first | exact (Kd.R_reads' HO371.out).2.2 | (with_reducible refine Kd.C_alloc ?_ _) | (with_reducible refine Kd.C_drewN ?_ _) | (with_reducible refine Kd.C_drew ?_))); (case side2 => exact (Kd.R_reads' HO371.out).2.1); (case side3 => repeat (first | exact (Kd.V_reads' HO374.out).2.2 | (with_reducible refine Kd.C_alloc ?_ _) | (with_reducible refine Kd.C_drewN ?_ _) | (with_reducible refine Kd.C_drew ?_))); (case side4 => exact (Kd.V_reads' HO374.out).2.1); (case side5 => repeat (first | exact (Kd.V_reads' HO377.out).2.2 | (with_reducible refine Kd.C_alloc ?_ _) | (with_reducible refine Kd.C_drewN ?_ _) | (with_reducible refine Kd.C_drew ?_))); (case side6 => exact (Kd.V_reads' HO377.out).2.1); rintro e w98 ⟨v384, rfl, ho0, hb⟩; refine ⟨_, rfl, ?_⟩; have n0_ := Aside0.mk (Kd.R_elder' (by (with_reducible repeat (first | apply Kd.R_alloc | apply Kd.R_drewN | apply Kd.R_drew)); exact HO371.out) (Kd.R_base ho0) hb); have n1_ := Aside0.mk (Kd.V_elder' (by (with_reducible repeat (first | apply Kd.V_alloc | apply Kd.V_drewN | apply Kd.V_drew)); exact HO374.out) (Kd.R_base ho0) hb); have n2_ := Aside0.mk (Kd.V_elder' (by (with_reducible repeat (first | apply Kd.V_alloc | apply Kd.V_drewN | apply Kd.V_drew)); exact HO377.out) (Kd.R_base ho0) hb); have n3_ := Aside0.mk (Kd.R_elder' (by (with_reducible repeat (first | apply Kd.R_alloc | apply Kd.R_drewN | apply Kd.R_drew)); exact HO381.out) (Kd.R_base ho0) hb); have n4_ := Aside0.mk (Kd.R_lower (Kd.R_new' (Kd.R_new' ho0 (Kd.R_lt (by (with_reducible repeat (first | apply Kd.R_alloc | apply Kd.R_drewN | apply Kd.R_drew)); exact HO371.out))) (Kd.R_lt (by (with_reducible repeat (first | apply Kd.R_alloc | apply Kd.R_drewN | apply Kd.R_drew)); exact HO381.out))) (below_size (by repeat (first | (with_reducible first | exact HB.out | apply below_alloc | apply pw_below_drewN | apply below_drew1) | exact HB.out)))); have n5_ := Aside0.mk (below_step (by repeat (first | (with_reducible first | exact HB.out | apply below_alloc | apply pw_below_drewN | apply below_drew1) | exact HB.out)) hb); clear HO371; clear HO374; clear HO377; clear HO381; clear HB; have HO371 := n0_; have HO374 := n1_; have HO377 := n2_; have HO381 := n3_; have HO385 := n4_; have HB := n5_; clear n0_ n1_ n2_ n3_ n4_ n5_; (try clear hb); (try clear hb2); (try clear hk); (try clear hi); (try clear ho0)) | ((with_reducible refine gate_callee (f := 20) rfl ?_); refine goesL_ (some 217) rfl rfl Tryd.func20 (by kernel_rfl) rfl #[.slice Ao94 t369.length co94, .slice Ao96 t375.length co96, .slice Ao95 t372.length co95] rfl (by (try simp only [List.map_toArray, List.map_cons, List.map_nil]); first | done | rfl | (simp only [List.length_drop, List.length_take]; rfl)) ?_; (with_reducible refine (impl_MovedKeys.calls kj32 _ _ t369 _ _ t375 _ _ t372 t386 t387 _ ?side1 ?side2 ?side3 ?side4 ?side5 ?side6 A87.out).mono ?_); (case side1 => repeat (first | exact (Kd.R_reads' HO371.out).2.2 | (with_reducible refine Kd.C_alloc ?_ _) | (with_reducible refine Kd.C_drewN ?_ _) | (with_reducible refine Kd.C_drew ?_))); (case side2 => exact (Kd.R_reads' HO371.out).2.1); (case side3 => repeat (first | exact (Kd.V_reads' HO377.out).2.2 | (with_reducible refine Kd.C_alloc ?_ _) | (with_reducible refine Kd.C_drewN ?_ _) | (with_reducible refine Kd.C_drew ?_))); (case side4 => exact (Kd.V_reads' HO377.out).2.1); (case side5 => repeat (first | exact (Kd.V_reads' HO374.out).2.2 | (with_reducible refine Kd.C_alloc ?_ _) | (with_reducible refine Kd.C_drewN ?_ _) | (with_reducible refine Kd.C_drew ?_))); (case side6 => exact (Kd.V_reads' HO374.out).2.1); rintro e w99 ⟨v388, rfl, ho0, hb⟩; refine ⟨_, rfl, ?_⟩; have n0_ := Aside0.mk (Kd.R_elder' (by (with_reducible repeat (first | apply Kd.R_alloc | apply Kd.R_drewN | apply Kd.R_drew)); exact HO371.out) (Kd.R_base ho0) hb); have n1_ := Aside0.mk (Kd.V_elder' (by (with_reducible repeat (first | apply Kd.V_alloc | apply Kd.V_drewN | apply Kd.V_drew)); exact HO374.out) (Kd.R_base ho0) hb); have n2_ := Aside0.mk (Kd.V_elder' (by (with_reducible repeat (first | apply Kd.V_alloc | apply Kd.V_drewN | apply Kd.V_drew)); exact HO377.out) (Kd.R_base ho0) hb); have n3_ := Aside0.mk (Kd.R_elder' (by (with_reducible repeat (first | apply Kd.R_alloc | apply Kd.R_drewN | apply Kd.R_drew)); exact HO381.out) (Kd.R_base ho0) hb); have n4_ := Aside0.mk (Kd.R_elder' (by (with_reducible repeat (first | apply Kd.R_alloc | apply Kd.R_drewN | apply Kd.R_drew)); exact HO385.out) (Kd.R_base ho0) hb); have n5_ := Aside0.mk (Kd.R_lower (Kd.R_new' (Kd.R_new' (Kd.R_new' ho0 (Kd.R_lt (by (with_reducible repeat (first | apply Kd.R_alloc | apply Kd.R_drewN | apply Kd.R_drew)); exact HO371.out))) (Kd.R_lt (by (with_reducible repeat (first | apply Kd.R_alloc | apply Kd.R_drewN | apply Kd.R_drew)); exact HO381.out))) (Kd.R_lt (by (with_reducible repeat (first | apply Kd.R_alloc | apply Kd.R_drewN | apply Kd.R_drew)); exact HO385.out))) (below_size (by repeat (first | (with_reducible first | exact HB.out | apply below_alloc | apply pw_below_drewN | apply below_drew1) | exact HB.out)))); have n6_ := Aside0.mk (below_step (by repeat (first | (with_reducible first | exact HB.out | apply below_alloc | apply pw_below_drewN | apply below_drew1) | exact HB.out)) hb); clear HO371; clear HO374; clear HO377; clear HO381; clear HO385; clear HB; have HO371 := n0_; have HO374 := n1_; have HO377 := n2_; have HO381 := n3_; have HO385 := n4_; have HO389 := n5_; have HB := n6_; clear n0_ n1_ n2_ n3_ n4_ n5_ n6_; (try clear hb); (try clear hb2); (try clear hk); (try clear hi); (try clear ho0); obtain ⟨Ao100, co100, eo100⟩ := Kd.R_slice HO381.out; subst eo100; obtain ⟨Ao101, co101, eo101⟩ := Kd.R_slice HO385.out; subst eo101) | (go_at_call 30; (with_reducible refine (laws_sameTexts.calls kj32 _ _ t378 _ _ t382 true _ ?side1 ?side2 ?side3 ?side4 A89.out).mono ?_); (case side1 => repeat (first | exact (Kd.R_reads' HO381.out).2.2 | (with_reducible refine Kd.C_alloc ?_ _) | (with_reducible refine Kd.C_drewN ?_ _) | (with_reducible refine Kd.C_drew ?_))); (case side2 => exact (Kd.R_reads' HO381.out).2.1); (case side3 => repeat (first | exact (Kd.R_reads' HO385.out).2.2 | (with_reducible refine Kd.C_alloc ?_ _) | (with_reducible refine Kd.C_drewN ?_ _) | (with_reducible refine Kd.C_drew ?_))); (case side4 => exact (Kd.R_reads' HO385.out).2.1); rintro e w' ⟨rfl, ⟨nd, rfl⟩⟩; obtain ⟨Ao102, co102, eo102⟩ := Kd.R_slice HO389.out; subst eo102) | (go_at_call 30; (with_reducible refine (laws_sameTexts.calls kj32 _ _ t386 _ _ t378 t391 _ ?side1 ?side2 ?side3 ?side4 A92.out).mono ?_); (case side1 => repeat (first | exact (Kd.R_reads' HO389.out).2.2 | (with_reducible refine Kd.C_alloc ?_ _) | (with_reducible refine Kd.C_drewN ?_ _) | (with_reducible refine Kd.C_drew ?_))); (case side2 => exact (Kd.R_reads' HO389.out).2.1); (case side3 => repeat (first | exact (Kd.R_reads' HO381.out).2.2 | (with_reducible refine Kd.C_alloc ?_ _) | (with_reducible refine Kd.C_drewN ?_ _) | (with_reducible refine Kd.C_drew ?_))); (case side4 => exact (Kd.R_reads' HO381.out).2.1); rintro e w' ⟨rfl, ⟨nd, rfl⟩⟩))
                      go_ret
                      exact ⟨by first | rfl | (simp [errW_none, errW_some] <;> rfl) | (simp [*, errW_none, errW_some] <;> rfl), by repeat (first | (with_reducible first | exact HB.out | apply below_alloc | apply pw_below_drewN | apply below_drew1) | exact HB.out)⟩
                    · rw [if_neg c91] at H
                      exact absurd H (by simp)
                  · replace c90 := Bool.eq_false_iff.mpr c90
                    subst c90
                    have H1 : (none) = some r := by rw [if_neg (show ¬ (false = true) by decide)] at H; exact H
                    clear H
                    have H := H1
                    clear H1
                    exact absurd H (by simp)
                · rw [if_neg c88] at H
                  exact absurd H (by simp)
          · replace c32 := Bool.eq_false_iff.mpr c32
            subst c32
            have H1 : ((spec_DrawMovedKeys.f kj8 l1).bind fun bt392 => ((impl_MovedKeys.f kj8 bt392.1 bt392.2.1 bt392.2.2).bind fun bt401 => ((spec_MovedKeys.f kj8 bt392.1 bt392.2.1 bt392.2.2).bind fun bt405 => ((impl_MovedKeys.f kj8 bt392.1 bt392.2.2 bt392.2.1).bind fun bt409 => (if (bt401.2 == bt405.2) = true then ((laws_sameTexts.f kj8 bt401.1 bt405.1).bind fun t413 => (if t413 = true then (if (bt409.2 == bt401.2) = true then ((laws_sameTexts.f kj8 bt409.1 bt401.1).bind fun t414 => (some t414)) else (none)) else (none))) else (none)))))) = some r := by rw [if_neg (show ¬ (false = true) by decide)] at H; exact H
            clear H
            have H := H1
            clear H1
            replace H := Option.bind_eq_some_iff.mp H
            obtain ⟨⟨t392, t395, t398⟩, A1030, H⟩ := H
            replace H : ((impl_MovedKeys.f kj8 t392 t395 t398).bind fun bt401 => ((spec_MovedKeys.f kj8 t392 t395 t398).bind fun bt405 => ((impl_MovedKeys.f kj8 t392 t398 t395).bind fun bt409 => (if (bt401.2 == bt405.2) = true then ((laws_sameTexts.f kj8 bt401.1 bt405.1).bind fun t413 => (if t413 = true then (if (bt409.2 == bt401.2) = true then ((laws_sameTexts.f kj8 bt409.1 bt401.1).bind fun t414 => (some t414)) else (none)) else (none))) else (none))))) = some r := H
            have A103 := Aside0.mk A1030
            clear A1030
            replace H := Option.bind_eq_some_iff.mp H
            obtain ⟨⟨t401, t402⟩, A1040, H⟩ := H
            replace H : ((spec_MovedKeys.f kj8 t392 t395 t398).bind fun bt405 => ((impl_MovedKeys.f kj8 t392 t398 t395).bind fun bt409 => (if (t402 == bt405.2) = true then ((laws_sameTexts.f kj8 t401 bt405.1).bind fun t413 => (if t413 = true then (if (bt409.2 == t402) = true then ((laws_sameTexts.f kj8 bt409.1 t401).bind fun t414 => (some t414)) else (none)) else (none))) else (none)))) = some r := H
            have A104 := Aside0.mk A1040
            clear A1040
            replace H := Option.bind_eq_some_iff.mp H
            obtain ⟨⟨t405, t406⟩, A1050, H⟩ := H
            replace H : ((impl_MovedKeys.f kj8 t392 t398 t395).bind fun bt409 => (if (t402 == t406) = true then ((laws_sameTexts.f kj8 t401 t405).bind fun t413 => (if t413 = true then (if (bt409.2 == t402) = true then ((laws_sameTexts.f kj8 bt409.1 t401).bind fun t414 => (some t414)) else (none)) else (none))) else (none))) = some r := H
            have A105 := Aside0.mk A1050
            clear A1050
            replace H := Option.bind_eq_some_iff.mp H
            obtain ⟨⟨t409, t410⟩, A1060, H⟩ := H
            replace H : (if (t402 == t406) = true then ((laws_sameTexts.f kj8 t401 t405).bind fun t413 => (if t413 = true then (if (t410 == t402) = true then ((laws_sameTexts.f kj8 t409 t401).bind fun t414 => (some t414)) else (none)) else (none))) else (none)) = some r := H
            have A106 := Aside0.mk A1060
            clear A1060
            by_cases c107 : (t402 == t406) = true
            · rw [if_pos c107] at H
              have c107b0 : (t402 == t406) = true := c107
              (try (have c107b1 : decide (t402 = t406) = true := by simpa using c107))
              (try (have c107b2 : (t402 == t406) = true := by simpa using c107))
              clear c107
              replace H := Option.bind_eq_some_iff.mp H
              obtain ⟨t413, A1080, H⟩ := H
              replace H : (if t413 = true then (if (t410 == t402) = true then ((laws_sameTexts.f kj8 t409 t401).bind fun t414 => (some t414)) else (none)) else (none)) = some r := H
              have A108 := Aside0.mk A1080
              clear A1080
              by_cases c109 : t413 = true
              · subst c109
                have H1 : (if (t410 == t402) = true then ((laws_sameTexts.f kj8 t409 t401).bind fun t414 => (some t414)) else (none)) = some r := by rw [if_pos rfl] at H; exact H
                clear H
                have H := H1
                clear H1
                by_cases c110 : (t410 == t402) = true
                · rw [if_pos c110] at H
                  have c110b0 : (t410 == t402) = true := c110
                  (try (have c110b1 : decide (t410 = t402) = true := by simpa using c110))
                  (try (have c110b2 : (t410 == t402) = true := by simpa using c110))
                  clear c110
                  replace H := Option.bind_eq_some_iff.mp H
                  obtain ⟨t414, A1110, H⟩ := H
                  replace H : (some t414) = some r := H
                  have A111 := Aside0.mk A1110
                  clear A1110
                  obtain rfl := Option.some.inj H
                  go_wp2_with (first | ((with_reducible refine gate_callee (f := 29) rfl ?_); refine goesL_ (some 195) rfl rfl Tryd.func29 (by kernel_rfl) rfl #[.slice A1 l1.length c1] rfl (by (try simp only [List.map_toArray, List.map_cons, List.map_nil]); first | done | rfl | (simp only [List.length_drop, List.length_take]; rfl)) ?_; (with_reducible refine (spec_DrawMovedKeys.calls kj8 _ _ l1 t392 t395 t398 _ ?side1 ?side2 A103.out).mono ?_); (case side1 => repeat (first | exact (Kd.C_below HR1.out HB.out) | (with_reducible refine Kd.C_alloc ?_ _) | (with_reducible refine Kd.C_drewN ?_ _) | (with_reducible refine Kd.C_drew ?_))); (case side2 => exact HC1.out); rintro e w112 ⟨v393, v396, v399, rfl, ho0, ho1, ho2, hb⟩; refine ⟨_, rfl, ?_⟩; have n0_ := Aside0.mk (Kd.R_below (by (with_reducible repeat (first | apply Kd.R_alloc | apply Kd.R_drewN | apply Kd.R_drew)); exact HO_5.out) hb); have n1_ := Aside0.mk (Kd.R_below (by (with_reducible repeat (first | apply Kd.R_alloc | apply Kd.R_drewN | apply Kd.R_drew)); exact HO_7.out) hb); have n2_ := Aside0.mk (Kd.R_lower (Kd.R_mono (ok' := fun k_ => True) ho0 (fun _ hk_ => trivial)) (below_size (by repeat (first | (with_reducible first | exact HB.out | apply below_alloc | apply pw_below_drewN | apply below_drew1) | exact HB.out)))); have n3_ := Aside0.mk (Kd.V_lower (Kd.V_mono (ok' := fun k_ => some k_ ≠ (v393 : Value).ownBlock ∧ some k_ ≠ (.slice Ao11 t315.length co11 : Value).ownBlock ∧ some k_ ≠ (v321 : Value).ownBlock) ho1 (fun k_ hk_ => ⟨hk_.2, (Kd.fresh' (Kd.R_lt (by (with_reducible repeat (first | apply Kd.R_alloc | apply Kd.R_drewN | apply Kd.R_drew)); exact HO_5.out)) k_ hk_.1), (Kd.fresh' (Kd.R_lt (by (with_reducible repeat (first | apply Kd.R_alloc | apply Kd.R_drewN | apply Kd.R_drew)); exact HO_7.out)) k_ hk_.1)⟩)) (below_size (by repeat (first | (with_reducible first | exact HB.out | apply below_alloc | apply pw_below_drewN | apply below_drew1) | exact HB.out)))); have n4_ := Aside0.mk (Kd.V_lower (Kd.V_mono (ok' := fun k_ => some k_ ≠ (v393 : Value).ownBlock ∧ some k_ ≠ (.slice Ao11 t315.length co11 : Value).ownBlock ∧ some k_ ≠ (v321 : Value).ownBlock) ho2 (fun k_ hk_ => ⟨hk_.2, (Kd.fresh' (Kd.R_lt (by (with_reducible repeat (first | apply Kd.R_alloc | apply Kd.R_drewN | apply Kd.R_drew)); exact HO_5.out)) k_ hk_.1), (Kd.fresh' (Kd.R_lt (by (with_reducible repeat (first | apply Kd.R_alloc | apply Kd.R_drewN | apply Kd.R_drew)); exact HO_7.out)) k_ hk_.1)⟩)) (below_size (by repeat (first | (with_reducible first | exact HB.out | apply below_alloc | apply pw_below_drewN | apply below_drew1) | exact HB.out)))); have n5_ := Aside0.mk (below_step (by repeat (first | (with_reducible first | exact HB.out | apply below_alloc | apply pw_below_drewN | apply below_drew1) | exact HB.out)) hb); clear HO_5; clear HO_7; clear HB; have HO_5 := n0_; have HO_7 := n1_; have HO394 := n2_; have HO397 := n3_; have HO400 := n4_; have HB := n5_; clear n0_ n1_ n2_ n3_ n4_ n5_; (try clear hb); (try clear hb2); (try clear hk); (try clear hi); (try clear ho0); (try clear ho1); (try clear ho2); obtain ⟨Ao113, co113, eo113⟩ := Kd.R_slice HO394.out; subst eo113; obtain ⟨Ao114, co114, eo114⟩ := Kd.V_slice HO397.out; subst eo114; obtain ⟨Ao115, co115, eo115⟩ := Kd.V_slice HO400.out; subst eo115) | ((with_reducible refine gate_callee (f := 20) rfl ?_); refine goesL_ (some 203) rfl rfl Tryd.func20 (by kernel_rfl) rfl #[.slice Ao113 t392.length co113, .slice Ao114 t395.length co114, .slice Ao115 t398.length co115] rfl (by (try simp only [List.map_toArray, List.map_cons, List.map_nil]); first | done | rfl | (simp only [List.length_drop, List.length_take]; rfl)) ?_; (with_reducible refine (impl_MovedKeys.calls kj8 _ _ t392 _ _ t395 _ _ t398 t401 t402 _ ?side1 ?side2 ?side3 ?side4 ?side5 ?side6 A104.out).mono ?_); (case side1 => repeat (first | exact (Kd.R_reads' HO394.out).2.2 | (with_reducible refine Kd.C_alloc ?_ _) | (with_reducible refine Kd.C_drewN ?_ _) | (with_reducible refine Kd.C_drew ?_))); (case side2 => exact (Kd.R_reads' HO394.out).2.1); (case side3 => repeat (first | exact (Kd.V_reads' HO397.out).2.2 | (with_reducible refine Kd.C_alloc ?_ _) | (with_reducible refine Kd.C_drewN ?_ _) | (with_reducible refine Kd.C_drew ?_))); (case side4 => exact (Kd.V_reads' HO397.out).2.1); (case side5 => repeat (first | exact (Kd.V_reads' HO400.out).2.2 | (with_reducible refine Kd.C_alloc ?_ _) | (with_reducible refine Kd.C_drewN ?_ _) | (with_reducible refine Kd.C_drew ?_))); (case side6 => exact (Kd.V_reads' HO400.out).2.1); rintro e w116 ⟨v403, rfl, ho0, hb⟩; refine ⟨_, rfl, ?_⟩; have n0_ := Aside0.mk (Kd.R_below (by (with_reducible repeat (first | apply Kd.R_alloc | apply Kd.R_drewN | apply Kd.R_drew)); exact HO_5.out) hb); have n1_ := Aside0.mk (Kd.R_below (by (with_reducible repeat (first | apply Kd.R_alloc | apply Kd.R_drewN | apply Kd.R_drew)); exact HO_7.out) hb); have n2_ := Aside0.mk (Kd.R_elder' (by (with_reducible repeat (first | apply Kd.R_alloc | apply Kd.R_drewN | apply Kd.R_drew)); exact HO394.out) (Kd.R_base ho0) hb); have n3_ := Aside0.mk (Kd.V_elder' (by (with_reducible repeat (first | apply Kd.V_alloc | apply Kd.V_drewN | apply Kd.V_drew)); exact HO397.out) (Kd.R_base ho0) hb); have n4_ := Aside0.mk (Kd.V_elder' (by (with_reducible repeat (first | apply Kd.V_alloc | apply Kd.V_drewN | apply Kd.V_drew)); exact HO400.out) (Kd.R_base ho0) hb); have n5_ := Aside0.mk (Kd.R_lower (Kd.R_new' ho0 (Kd.R_lt (by (with_reducible repeat (first | apply Kd.R_alloc | apply Kd.R_drewN | apply Kd.R_drew)); exact HO394.out))) (below_size (by repeat (first | (with_reducible first | exact HB.out | apply below_alloc | apply pw_below_drewN | apply below_drew1) | exact HB.out)))); have n6_ := Aside0.mk (below_step (by repeat (first | (with_reducible first | exact HB.out | apply below_alloc | apply pw_below_drewN | apply below_drew1) | exact HB.out)) hb); clear HO_5; clear HO_7; clear HO394; clear HO397; clear HO400; clear HB; have HO_5 := n0_; have HO_7 := n1_; have HO394 := n2_; have HO397 := n3_; have HO400 := n4_; have HO404 := n5_; have HB := n6_; clear n0_ n1_ n2_ n3_ n4_ n5_ n6_; (try clear hb); (try clear hb2); (try clear hk); (try clear hi); (try clear ho0)) | ((with_reducible refine gate_callee (f := 18) rfl ?_); refine goesL_ (some 210) rfl rfl Tryd.func18 (by kernel_rfl) rfl #[.slice Ao113 t392.length co113, .slice Ao114 t395.length co114, .slice Ao115 t398.length co115] rfl (by (try simp only [List.map_toArray, List.map_cons, List.map_nil]); first | done | rfl | (simp only [List.length_drop, List.length_take]; rfl)) ?_; (with_reducible refine (spec_MovedKeys.calls kj8 _ _ t392 _ _ t395 _ _ t398 t405 t406 _ ?side1 ?side2 ?side3 ?side4 ?side5 ?side6 A105.out).mono ?_); (case side1 => repeat (first | exact (Kd.R_reads' HO394.out).2.2 | (with_reducible refine Kd.C_alloc ?_ _) | (with_reducible refine Kd.C_drewN ?_ _) | (with_reducible refine Kd.C_drew ?_))); (case side2 => exact (Kd.R_reads' HO394.out).2.1); (case side3 => repeat (first | exact (Kd.V_reads' HO397.out).2.2 | (with_reducible refine Kd.C_alloc ?_ _) | (with_reducible refine Kd.C_drewN ?_ _) | (with_reducible refine Kd.C_drew ?_))); (case side4 => exact (Kd.V_reads' HO397.out).2.1); (case side5 => repeat (first | exact (Kd.V_reads' HO400.out).2.2 | (with_reducible refine Kd.C_alloc ?_ _) | (with_reducible refine Kd.C_drewN ?_ _) | (with_reducible refine Kd.C_drew ?_))); (case side6 => exact (Kd.V_reads' HO400.out).2.1); rintro e w117 ⟨v407, rfl, ho0, hb⟩; refine ⟨_, rfl, ?_⟩; have n0_ := Aside0.mk (Kd.R_below (by (with_reducible repeat (first | apply Kd.R_alloc | apply Kd.R_drewN | apply Kd.R_drew)); exact HO_5.out) hb); have n1_ := Aside0.mk (Kd.R_below (by (with_reducible repeat (first | apply Kd.R_alloc | apply Kd.R_drewN | apply Kd.R_drew)); exact HO_7.out) hb); have n2_ := Aside0.mk (Kd.R_elder' (by (with_reducible repeat (first | apply Kd.R_alloc | apply Kd.R_drewN | apply Kd.R_drew)); exact HO394.out) (Kd.R_base ho0) hb); have n3_ := Aside0.mk (Kd.V_elder' (by (with_reducible repeat (first | apply Kd.V_alloc | apply Kd.V_drewN | apply Kd.V_drew)); exact HO397.out) (Kd.R_base ho0) hb); have n4_ := Aside0.mk (Kd.V_elder' (by (with_reducible repeat (first | apply Kd.V_alloc | apply Kd.V_drewN | apply Kd.V_drew)); exact HO400.out) (Kd.R_base ho0) hb); have n5_ := Aside0.mk (Kd.R_elder' (by (with_reducible repeat (first | apply Kd.R_alloc | apply Kd.R_drewN | apply Kd.R_drew)); exact HO404.out) (Kd.R_base ho0) hb); have n6_ := Aside0.mk (Kd.R_lower (Kd.R_new' (Kd.R_new' ho0 (Kd.R_lt (by (with_reducible repeat (first | apply Kd.R_alloc | apply Kd.R_drewN | apply Kd.R_drew)); exact HO394.out))) (Kd.R_lt (by (with_reducible repeat (first | apply Kd.R_alloc | apply Kd.R_drewN | apply Kd.R_drew)); exact HO404.out))) (below_size (by repeat (first | (with_reducible first | exact HB.out | apply below_alloc | apply pw_below_drewN | apply below_drew1) | exact HB.out)))); have n7_ := Aside0.mk (below_step (by repeat (first | (with_reducible first | exact HB.out | apply below_alloc | apply pw_below_drewN | apply below_drew1) | exact HB.out)) hb); clear HO_5; clear HO_7; clear HO394; clear HO397; clear HO400; clear HO404; clear HB; have HO_5 := n0_; have HO_7 := n1_; have HO394 := n2_; have HO397 := n3_; have HO400 := n4_; have HO404 := n5_; have HO408 := n6_; have HB := n7_; clear n0_ n1_ n2_ n3_ n4_ n5_ n6_ n7_; (try clear hb); (try clear hb2); (try clear hk); (try clear hi); (try clear ho0)) | ((with_reducible refine gate_callee (f := 20) rfl ?_); refine goesL_ (some 217) rfl rfl Tryd.func20 (by kernel_rfl) rfl #[.slice Ao113 t392.length co113, .slice Ao115 t398.length co115, .slice Ao114 t395.length co114] rfl (by (try simp only [List.map_toArray, List.map_cons, List.map_nil]); first | done | rfl | (simp only [List.length_drop, List.length_take]; rfl)) ?_; (with_reducible refine (impl_MovedKeys.calls kj8 _ _ t392 _ _ t398 _ _ t395 t409 t410 _ ?side1 ?side2 ?side3 ?side4 ?side5 ?side6 A106.out).mono ?_); (case side1 => repeat (first | exact (Kd.R_reads' HO394.out).2.2 | (with_reducible refine Kd.C_alloc ?_ _) | (with_reducible refine Kd.C_drewN ?_ _) | (with_reducible refine Kd.C_drew ?_))); (case side2 => exact (Kd.R_reads' HO394.out).2.1); (case side3 => repeat (first | exact (Kd.V_reads' HO400.out).2.2 | (with_reducible refine Kd.C_alloc ?_ _) | (with_reducible refine Kd.C_drewN ?_ _) | (with_reducible refine Kd.C_drew ?_))); (case side4 => exact (Kd.V_reads' HO400.out).2.1); (case side5 => repeat (first | exact (Kd.V_reads' HO397.out).2.2 | (with_reducible refine Kd.C_alloc ?_ _) | (with_reducible refine Kd.C_drewN ?_ _) | (with_reducible refine Kd.C_drew ?_))); (case side6 => exact (Kd.V_reads' HO397.out).2.1); rintro e w118 ⟨v411, rfl, ho0, hb⟩; refine ⟨_, rfl, ?_⟩; have n0_ := Aside0.mk (Kd.R_below (by (with_reducible repeat (first | apply Kd.R_alloc | apply Kd.R_drewN | apply Kd.R_drew)); exact HO_5.out) hb); have n1_ := Aside0.mk (Kd.R_below (by (with_reducible repeat (first | apply Kd.R_alloc | apply Kd.R_drewN | apply Kd.R_drew)); exact HO_7.out) hb); have n2_ := Aside0.mk (Kd.R_elder' (by (with_reducible repeat (first | apply Kd.R_alloc | apply Kd.R_drewN | apply Kd.R_drew)); exact HO394.out) (Kd.R_base ho0) hb); have n3_ := Aside0.mk (Kd.V_elder' (by (with_reducible repeat (first | apply Kd.V_alloc | apply Kd.V_drewN | apply Kd.V_drew)); exact HO397.out) (Kd.R_base ho0) hb); have n4_ := Aside0.mk (Kd.V_elder' (by (with_reducible repeat (first | apply Kd.V_alloc | apply Kd.V_drewN | apply Kd.V_drew)); exact HO400.out) (Kd.R_base ho0) hb); have n5_ := Aside0.mk (Kd.R_elder' (by (with_reducible repeat (first | apply Kd.R_alloc | apply Kd.R_drewN | apply Kd.R_drew)); exact HO404.out) (Kd.R_base ho0) hb); have n6_ := Aside0.mk (Kd.R_elder' (by (with_reducible repeat (first | apply Kd.R_alloc | apply Kd.R_drewN | apply Kd.R_drew)); exact HO408.out) (Kd.R_base ho0) hb); have n7_ := Aside0.mk (Kd.R_lower (Kd.R_new' (Kd.R_new' (Kd.R_new' ho0 (Kd.R_lt (by (with_reducible repeat (first | apply Kd.R_alloc | apply Kd.R_drewN | apply Kd.R_drew)); exact HO394.out))) (Kd.R_lt (by (with_reducible repeat (first | apply Kd.R_alloc | apply Kd.R_drewN | apply Kd.R_drew)); exact HO404.out))) (Kd.R_lt (by (with_reducible repeat (first | apply Kd.R_alloc | apply Kd.R_drewN | apply Kd.R_drew)); exact HO408.out))) (below_size (by repeat (first | (with_reducible first | exact HB.out | apply below_alloc | apply pw_below_drewN | apply below_drew1) | exact HB.out)))); have n8_ := Aside0.mk (below_step (by repeat (first | (with_reducible first | exact HB.out | apply below_alloc | apply pw_below_drewN | apply below_drew1) | exact HB.out)) hb); clear HO_5; clear HO_7; clear HO394; clear HO397; clear HO400; clear HO404; clear HO408; clear HB; have HO_5 := n0_; have HO_7 := n1_; have HO394 := n2_; have HO397 := n3_; have HO400 := n4_; have HO404 := n5_; have HO408 := n6_; have HO412 := n7_; have HB := n8_; clear n0_ n1_ n2_ n3_ n4_ n5_ n6_ n7_ n8_; (try clear hb); (try clear hb2); (try clear hk); (try clear hi); (try clear ho0); obtain ⟨Ao119, co119, eo119⟩ := Kd.R_slice HO404.out; subst eo119; obtain ⟨Ao120, co120, eo120⟩ := Kd.R_slice HO408.out; subst eo120) | (go_at_call 30; (with_reducible refine (laws_sameTexts.calls kj8 _ _ t401 _ _ t405 true _ ?side1 ?side2 ?side3 ?side4 A108.out).mono ?_); (case side1 => repeat (first | exact (Kd.R_reads' HO404.out).2.2 | (with_reducible refine Kd.C_alloc ?_ _) | (with_reducible refine Kd.C_drewN ?_ _) | (with_reducible refine Kd.C_drew ?_))); (case side2 => exact (Kd.R_reads' HO404.out).2.1); (case side3 => repeat (first | exact (Kd.R_reads' HO408.out).2.2 | (with_reducible refine Kd.C_alloc ?_ _) | (with_reducible refine Kd.C_drewN ?_ _) | (with_reducible refine Kd.C_drew ?_))); (case side4 => exact (Kd.R_reads' HO408.out).2.1); rintro e w' ⟨rfl, ⟨nd, rfl⟩⟩; obtain ⟨Ao121, co121, eo121⟩ := Kd.R_slice HO412.out; subst eo121) | (go_at_call 30; (with_reducible refine (laws_sameTexts.calls kj8 _ _ t409 _ _ t401 t414 _ ?side1 ?side2 ?side3 ?side4 A111.out).mono ?_); (case side1 => repeat (first | exact (Kd.R_reads' HO412.out).2.2 | (with_reducible refine Kd.C_alloc ?_ _) | (with_reducible refine Kd.C_drewN ?_ _) | (with_reducible refine Kd.C_drew ?_))); (case side2 => exact (Kd.R_reads' HO412.out).2.1); (case side3 => repeat (first | exact (Kd.R_reads' HO404.out).2.2 | (with_reducible refine Kd.C_alloc ?_ _) | (with_reducible refine Kd.C_drewN ?_ _) | (with_reducible refine Kd.C_drew ?_))); (case side4 => exact (Kd.R_reads' HO404.out).2.1); rintro e w' ⟨rfl, ⟨nd, rfl⟩⟩))
                  go_ret
                  exact ⟨by first | rfl | (simp [errW_none, errW_some] <;> rfl) | (simp [*, errW_none, errW_some] <;> rfl), by repeat (first | (with_reducible first | exact HB.out | apply below_alloc | apply pw_below_drewN | apply below_drew1) | exact HB.out)⟩
                · rw [if_neg c110] at H
                  exact absurd H (by simp)
              · replace c109 := Bool.eq_false_iff.mpr c109
                subst c109
                have H1 : (none) = some r := by rw [if_neg (show ¬ (false = true) by decide)] at H; exact H
                clear H
                have H := H1
                clear H1
                exact absurd H (by simp)
            · rw [if_neg c107] at H
              exact absurd H (by simp)

/-- THE ONE PURE STATEMENT of laws_FnRendezvous: yours. -/
def laws_FnRendezvous.Pure : Prop := ∀ (l0 : List Int) (l1 : List Int), l0.length ≤ maxLen → l0.length * 1 ≤ 140737488351232 → (∀ x ∈ l0, (Lit.int .u8 x).wf = true) → l1.length ≤ maxLen → l1.length * 1 ≤ 140737488351232 → (∀ x ∈ l1, (Lit.int .u8 x).wf = true) → ∃ k, laws_FnRendezvous.f k l0 l1 = some true
theorem laws_FnRendezvous.walk (P : laws_FnRendezvous.Pure) (a0 : Option Addr) (len0 cap0 : Nat) (z0 : List Int) (a1 : Option Addr) (len1 cap1 : Nat) (z1 : List Int) (w : World) (w0 : (a0 = none ∧ len0 = 0 ∧ cap0 = 0 ∧ z0 = []) ∨ ∃ x, a0 = some x ∧ len0 ≤ cap0 ∧ cap0 ≤ maxLen ∧ z0.length = cap0 ∧ (∀ i, i < z0.length → w.cell? (x.add i) = some (.int .u8 (z0.getD i 0))) ∧ ∀ n ∈ z0, (Lit.int .u8 n).wf = true) (y0 : len0 * 1 ≤ 140737488351232) (w1 : (a1 = none ∧ len1 = 0 ∧ cap1 = 0 ∧ z1 = []) ∨ ∃ x, a1 = some x ∧ len1 ≤ cap1 ∧ cap1 ≤ maxLen ∧ z1.length = cap1 ∧ (∀ i, i < z1.length → w.cell? (x.add i) = some (.int .u8 (z1.getD i 0))) ∧ ∀ n ∈ z1, (Lit.int .u8 n).wf = true) (y1 : len1 * 1 ≤ 140737488351232) :
    Calls Tryd.prog 6 #[.slice a0 len0 cap0, .slice a1 len1 cap1] w fun e w' => e = .returned (.bool true) ∧ Below w.heap.size w w' := by
  obtain ⟨l0, rfl, hr0, hm0, hw0, hc0⟩ := ReadsInt.ofRowC w0
  obtain ⟨l1, rfl, hr1, hm1, hw1, hc1⟩ := ReadsInt.ofRowC w1
  obtain ⟨k, h⟩ := P l0 l1 hm0 y0 hw0 hm1 y1 hw1
  refine (laws_FnRendezvous.calls k _ _ l0 _ _ l1 true w (Kd.C_of_reads (d := (0 : Int)) (h1 := fun _ => rfl) hr0) hc0 (Kd.C_of_reads (d := (0 : Int)) (h1 := fun _ => rfl) hr1) hc1 h).mono ?_
  rintro e w' ⟨rfl, hd⟩
  exact ⟨rfl, hd⟩

end Go.Proofs.YtfopmaiednikhaaDoor.PFnRendezvous
