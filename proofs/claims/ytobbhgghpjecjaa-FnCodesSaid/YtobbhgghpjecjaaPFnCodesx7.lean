-- written by a program of this session (wip/tool)
import Derived.Test.YtobbhgghpjecjaaPFnCodesx0
import Derived.Test.YtobbhgghpjecjaaPFnCodesx4
import Derived.Test.YtobbhgghpjecjaaPFnCodesx5
import Derived.Test.YtobbhgghpjecjaaPFnCodesx6
import Derived.Test.YtobbhgghpjecjaaOwn0
import Derived.Test.YtobbhgghpjecjaaOwnOpen
import Derived.Laws.Cover1
namespace Go.Proofs.Ytobbhgghpjecjaa.PFnCodes
open Go.RowKit Go.Proofs.YtobbhgghpjecjaaW.PrintWords Go.Proofs.YtobbhgghpjecjaaW.PrintLast Go.Proofs.YtobbhgghpjecjaaW.PrintMore Go.Shelf Go.Proofs.YtobbhgghpjecjaaOwn
attribute [local go_sem] max2_int min2_int max_two min_two max_three min_three max_four min_four   -- for this text's walks alone
set_option linter.unusedVariables false
set_option linter.unusedSimpArgs false

/-! ### laws_FnCodes: function 5 -/
mutual
def laws_FnCodes.j0 : Nat → List Int → List ByteArray → Bool → Option (Bool)
  | 0, _, _, _ => none
  | k + 1, x3, x4, x68 => if x68 = true then (some false) else (laws_FnCodes.l0 k x3 x4 x4 (x4.length : Int) 0)
def laws_FnCodes.l0 : Nat → List Int → List ByteArray → List ByteArray → Int → Int → Option (Bool)
  | 0, _, _, _, _, _ => none
  | k + 1, x3, x4, x69, x70, x71 => if x71 < x70 then (if 0 ≤ x71 then (if x71 < (x69.length : Int) then (if x71 < (x3.length : Int) then (if ((rdOf ByteArray.empty x69 x71).size : Int) = (rd x3 x71) then (laws_FnCodes.l1 k x3 x4 x71 (rdOf ByteArray.empty x69 x71) x69 x70 x71 x4 (x4.length : Int) 0) else (some false)) else (none)) else (none)) else (none)) else (some true)
def laws_FnCodes.l1 : Nat → List Int → List ByteArray → Int → ByteArray → List ByteArray → Int → Int → List ByteArray → Int → Int → Option (Bool)
  | 0, _, _, _, _, _, _, _, _, _, _ => none
  | k + 1, x3, x4, x12, x13, x69, x70, x71, x83, x84, x85 => if x85 < x84 then (if 0 ≤ x85 then (if x85 < (x83.length : Int) then (if x12 = x85 then (laws_FnCodes.j3 k x3 x4 x12 x13 x85 (rdOf ByteArray.empty x83 x85) x69 x70 x71 x83 x84 x85 false) else (if x13.toList = ([] : List UInt8) then (laws_FnCodes.j3 k x3 x4 x12 x13 x85 (rdOf ByteArray.empty x83 x85) x69 x70 x71 x83 x84 x85 false) else (if ((rdOf ByteArray.empty x83 x85).size : Int) ≥ (x13.size : Int) then (if 0 ≤ (x13.size : Int) then (if (x13.size : Int) ≤ ((rdOf ByteArray.empty x83 x85).size : Int) then (laws_FnCodes.j3 k x3 x4 x12 x13 x85 (rdOf ByteArray.empty x83 x85) x69 x70 x71 x83 x84 x85 (((rdOf ByteArray.empty x83 x85).extract 0 ((x13.size : Int) : Int).toNat).toList == x13.toList)) else (none)) else (none)) else (laws_FnCodes.j3 k x3 x4 x12 x13 x85 (rdOf ByteArray.empty x83 x85) x69 x70 x71 x83 x84 x85 false)))) else (none)) else (none)) else (laws_FnCodes.l0 k x3 x4 x69 x70 (wrap64 (x71 + 1)))
def laws_FnCodes.j3 : Nat → List Int → List ByteArray → Int → ByteArray → Int → ByteArray → List ByteArray → Int → Int → List ByteArray → Int → Int → Bool → Option (Bool)
  | 0, _, _, _, _, _, _, _, _, _, _, _, _, _ => none
  | k + 1, x3, x4, x12, x13, x14, x15, x69, x70, x71, x83, x84, x85, x111 => if x111 = true then (some false) else (if x12 < x14 then (if (x13.size : Int) = (x15.size : Int) then (if x13.toList = ([] : List UInt8) then (laws_FnCodes.l1 k x3 x4 x12 x13 x69 x70 x71 x83 x84 (wrap64 (x85 + 1))) else (if ((Op.bytesLess x13.toList x15.toList) = true) then (laws_FnCodes.l1 k x3 x4 x12 x13 x69 x70 x71 x83 x84 (wrap64 (x85 + 1))) else (some false))) else (laws_FnCodes.l1 k x3 x4 x12 x13 x69 x70 x71 x83 x84 (wrap64 (x85 + 1)))) else (laws_FnCodes.l1 k x3 x4 x12 x13 x69 x70 x71 x83 x84 (wrap64 (x85 + 1))))
end
def laws_FnCodes.f (k : Nat) (l0 : List Int) : Option (Bool) := if (l0.length : Int) > 1048576 then (some true) else ((spec_DrawCodesOf.f k l0).bind fun t284 => ((impl_CodesOf.f k t284).bind fun bt287 => ((spec_CodesOf.f k t284).bind fun bt291 => ((impl_KraftOf.f k t284).bind fun bt295 => ((spec_KraftOf.f k t284).bind fun bt297 => (if (bt287.2 != bt291.2) = true then (laws_FnCodes.j0 k t284 bt287.1 true) else ((laws_sameTexts.f k bt287.1 bt291.1).bind fun t299 => (if t299 = true then (if (bt295.2 != bt297.2) = true then (laws_FnCodes.j0 k t284 bt287.1 true) else (if bt295.1 = bt297.1 then (if bt295.2 = true then (laws_FnCodes.j0 k t284 bt287.1 (bt287.2 != (decide (bt295.1 ≤ 8388608)))) else (laws_FnCodes.j0 k t284 bt287.1 (bt287.2 != false))) else (laws_FnCodes.j0 k t284 bt287.1 true))) else (laws_FnCodes.j0 k t284 bt287.1 true)))))))))
theorem laws_FnCodes.mono_l : ∀ k, (∀ y0 y1 y2, LeO (laws_FnCodes.j0 k y0 y1 y2) (laws_FnCodes.j0 (k + 1) y0 y1 y2)) ∧ (∀ y0 y1 y2 y3 y4, LeO (laws_FnCodes.l0 k y0 y1 y2 y3 y4) (laws_FnCodes.l0 (k + 1) y0 y1 y2 y3 y4)) ∧ (∀ y0 y1 y2 y3 y4 y5 y6 y7 y8 y9, LeO (laws_FnCodes.l1 k y0 y1 y2 y3 y4 y5 y6 y7 y8 y9) (laws_FnCodes.l1 (k + 1) y0 y1 y2 y3 y4 y5 y6 y7 y8 y9)) ∧ (∀ y0 y1 y2 y3 y4 y5 y6 y7 y8 y9 y10 y11 y12, LeO (laws_FnCodes.j3 k y0 y1 y2 y3 y4 y5 y6 y7 y8 y9 y10 y11 y12) (laws_FnCodes.j3 (k + 1) y0 y1 y2 y3 y4 y5 y6 y7 y8 y9 y10 y11 y12))
  | 0 => ⟨fun _ _ _ r h => by simp [laws_FnCodes.j0] at h, fun _ _ _ _ _ r h => by simp [laws_FnCodes.l0] at h, fun _ _ _ _ _ _ _ _ _ _ r h => by simp [laws_FnCodes.l1] at h, fun _ _ _ _ _ _ _ _ _ _ _ _ _ r h => by simp [laws_FnCodes.j3] at h⟩
  | k + 1 => by
    obtain ⟨ih0, ih1, ih2, ih3⟩ := laws_FnCodes.mono_l k
    refine ⟨?_, ?_, ?_, ?_⟩
    · intro y0 y1 y2
      unfold laws_FnCodes.j0
      repeat' first
      | (with_reducible exact ih0 _ _ _)
      | (with_reducible exact ih1 _ _ _ _ _)
      | (with_reducible exact ih2 _ _ _ _ _ _ _ _ _ _)
      | (with_reducible exact ih3 _ _ _ _ _ _ _ _ _ _ _ _ _)
      | (with_reducible exact impl_CodesOf.mono _ _)
      | (with_reducible exact impl_KraftOf.mono _ _)
      | (with_reducible exact laws_sameTexts.mono _ _ _)
      | (with_reducible exact spec_CodesOf.mono _ _)
      | (with_reducible exact spec_DrawCodesOf.mono _ _)
      | (with_reducible exact spec_KraftOf.mono _ _)
      | (with_reducible exact LeO.refl _)
      | (with_reducible exact LeO.none _)
      | (with_reducible refine LeO.ite ?_ ?_)
      | (with_reducible refine LeO.bind ?_ (fun _ => ?_))
      | exact ih0 _ _ _
      | exact ih1 _ _ _ _ _
      | exact ih2 _ _ _ _ _ _ _ _ _ _
      | exact ih3 _ _ _ _ _ _ _ _ _ _ _ _ _
      | exact impl_CodesOf.mono _ _
      | exact impl_KraftOf.mono _ _
      | exact laws_sameTexts.mono _ _ _
      | exact spec_CodesOf.mono _ _
      | exact spec_DrawCodesOf.mono _ _
      | exact spec_KraftOf.mono _ _
      | exact LeO.none _
      | refine LeO.ite ?_ ?_
      | refine LeO.bind ?_ (fun _ => ?_)
    · intro y0 y1 y2 y3 y4
      unfold laws_FnCodes.l0
      repeat' first
      | (with_reducible exact ih0 _ _ _)
      | (with_reducible exact ih1 _ _ _ _ _)
      | (with_reducible exact ih2 _ _ _ _ _ _ _ _ _ _)
      | (with_reducible exact ih3 _ _ _ _ _ _ _ _ _ _ _ _ _)
      | (with_reducible exact impl_CodesOf.mono _ _)
      | (with_reducible exact impl_KraftOf.mono _ _)
      | (with_reducible exact laws_sameTexts.mono _ _ _)
      | (with_reducible exact spec_CodesOf.mono _ _)
      | (with_reducible exact spec_DrawCodesOf.mono _ _)
      | (with_reducible exact spec_KraftOf.mono _ _)
      | (with_reducible exact LeO.refl _)
      | (with_reducible exact LeO.none _)
      | (with_reducible refine LeO.ite ?_ ?_)
      | (with_reducible refine LeO.bind ?_ (fun _ => ?_))
      | exact ih0 _ _ _
      | exact ih1 _ _ _ _ _
      | exact ih2 _ _ _ _ _ _ _ _ _ _
      | exact ih3 _ _ _ _ _ _ _ _ _ _ _ _ _
      | exact impl_CodesOf.mono _ _
      | exact impl_KraftOf.mono _ _
      | exact laws_sameTexts.mono _ _ _
      | exact spec_CodesOf.mono _ _
      | exact spec_DrawCodesOf.mono _ _
      | exact spec_KraftOf.mono _ _
      | exact LeO.none _
      | refine LeO.ite ?_ ?_
      | refine LeO.bind ?_ (fun _ => ?_)
    · intro y0 y1 y2 y3 y4 y5 y6 y7 y8 y9
      unfold laws_FnCodes.l1
      repeat' first
      | (with_reducible exact ih0 _ _ _)
      | (with_reducible exact ih1 _ _ _ _ _)
      | (with_reducible exact ih2 _ _ _ _ _ _ _ _ _ _)
      | (with_reducible exact ih3 _ _ _ _ _ _ _ _ _ _ _ _ _)
      | (with_reducible exact impl_CodesOf.mono _ _)
      | (with_reducible exact impl_KraftOf.mono _ _)
      | (with_reducible exact laws_sameTexts.mono _ _ _)
      | (with_reducible exact spec_CodesOf.mono _ _)
      | (with_reducible exact spec_DrawCodesOf.mono _ _)
      | (with_reducible exact spec_KraftOf.mono _ _)
      | (with_reducible exact LeO.refl _)
      | (with_reducible exact LeO.none _)
      | (with_reducible refine LeO.ite ?_ ?_)
      | (with_reducible refine LeO.bind ?_ (fun _ => ?_))
      | exact ih0 _ _ _
      | exact ih1 _ _ _ _ _
      | exact ih2 _ _ _ _ _ _ _ _ _ _
      | exact ih3 _ _ _ _ _ _ _ _ _ _ _ _ _
      | exact impl_CodesOf.mono _ _
      | exact impl_KraftOf.mono _ _
      | exact laws_sameTexts.mono _ _ _
      | exact spec_CodesOf.mono _ _
      | exact spec_DrawCodesOf.mono _ _
      | exact spec_KraftOf.mono _ _
      | exact LeO.none _
      | refine LeO.ite ?_ ?_
      | refine LeO.bind ?_ (fun _ => ?_)
    · intro y0 y1 y2 y3 y4 y5 y6 y7 y8 y9 y10 y11 y12
      unfold laws_FnCodes.j3
      repeat' first
      | (with_reducible exact ih0 _ _ _)
      | (with_reducible exact ih1 _ _ _ _ _)
      | (with_reducible exact ih2 _ _ _ _ _ _ _ _ _ _)
      | (with_reducible exact ih3 _ _ _ _ _ _ _ _ _ _ _ _ _)
      | (with_reducible exact impl_CodesOf.mono _ _)
      | (with_reducible exact impl_KraftOf.mono _ _)
      | (with_reducible exact laws_sameTexts.mono _ _ _)
      | (with_reducible exact spec_CodesOf.mono _ _)
      | (with_reducible exact spec_DrawCodesOf.mono _ _)
      | (with_reducible exact spec_KraftOf.mono _ _)
      | (with_reducible exact LeO.refl _)
      | (with_reducible exact LeO.none _)
      | (with_reducible refine LeO.ite ?_ ?_)
      | (with_reducible refine LeO.bind ?_ (fun _ => ?_))
      | exact ih0 _ _ _
      | exact ih1 _ _ _ _ _
      | exact ih2 _ _ _ _ _ _ _ _ _ _
      | exact ih3 _ _ _ _ _ _ _ _ _ _ _ _ _
      | exact impl_CodesOf.mono _ _
      | exact impl_KraftOf.mono _ _
      | exact laws_sameTexts.mono _ _ _
      | exact spec_CodesOf.mono _ _
      | exact spec_DrawCodesOf.mono _ _
      | exact spec_KraftOf.mono _ _
      | exact LeO.none _
      | refine LeO.ite ?_ ?_
      | refine LeO.bind ?_ (fun _ => ?_)
theorem laws_FnCodes.mono : ∀ a0 k, LeO (laws_FnCodes.f k a0) (laws_FnCodes.f (k + 1) a0) := by
  intro a0 k
  obtain ⟨ih0, ih1, ih2, ih3⟩ := laws_FnCodes.mono_l k
  unfold laws_FnCodes.f
  repeat' first
      | (with_reducible exact ih0 _ _ _)
      | (with_reducible exact ih1 _ _ _ _ _)
      | (with_reducible exact ih2 _ _ _ _ _ _ _ _ _ _)
      | (with_reducible exact ih3 _ _ _ _ _ _ _ _ _ _ _ _ _)
      | (with_reducible exact impl_CodesOf.mono _ _)
      | (with_reducible exact impl_KraftOf.mono _ _)
      | (with_reducible exact laws_sameTexts.mono _ _ _)
      | (with_reducible exact spec_CodesOf.mono _ _)
      | (with_reducible exact spec_DrawCodesOf.mono _ _)
      | (with_reducible exact spec_KraftOf.mono _ _)
      | (with_reducible exact LeO.refl _)
      | (with_reducible exact LeO.none _)
      | (with_reducible refine LeO.ite ?_ ?_)
      | (with_reducible refine LeO.bind ?_ (fun _ => ?_))
      | exact ih0 _ _ _
      | exact ih1 _ _ _ _ _
      | exact ih2 _ _ _ _ _ _ _ _ _ _
      | exact ih3 _ _ _ _ _ _ _ _ _ _ _ _ _
      | exact impl_CodesOf.mono _ _
      | exact impl_KraftOf.mono _ _
      | exact laws_sameTexts.mono _ _ _
      | exact spec_CodesOf.mono _ _
      | exact spec_DrawCodesOf.mono _ _
      | exact spec_KraftOf.mono _ _
      | exact LeO.none _
      | refine LeO.ite ?_ ?_
      | refine LeO.bind ?_ (fun _ => ?_)
set_option maxHeartbeats 8000000 in
set_option maxRecDepth 100000 in
theorem laws_FnCodes.calls (k : Nat) (A0 : Option Addr) (c0 : Nat) (l0 : List Int) (r : Bool) (w : World) (hr0 : Kd.C (Kd.int .u8) w A0 l0.length l0) (hc0 : l0.length ≤ c0) (h : laws_FnCodes.f k l0 = some r) :
    Calls Try.prog 5 #[.slice A0 l0.length c0] w fun e w' => e = .returned (.bool r) ∧ Below w.heap.size w w' := by
  have HR0 := Aside0.mk hr0
  have HC0 := Aside0.mk hc0
  clear hr0 hc0
  have HB := Aside0.mk (Below.refl w.heap.size w)
  have H : (if (l0.length : Int) > 1048576 then (some true) else ((spec_DrawCodesOf.f k l0).bind fun t284 => ((impl_CodesOf.f k t284).bind fun bt287 => ((spec_CodesOf.f k t284).bind fun bt291 => ((impl_KraftOf.f k t284).bind fun bt295 => ((spec_KraftOf.f k t284).bind fun bt297 => (if (bt287.2 != bt291.2) = true then (laws_FnCodes.j0 k t284 bt287.1 true) else ((laws_sameTexts.f k bt287.1 bt291.1).bind fun t299 => (if t299 = true then (if (bt295.2 != bt297.2) = true then (laws_FnCodes.j0 k t284 bt287.1 true) else (if bt295.1 = bt297.1 then (if bt295.2 = true then (laws_FnCodes.j0 k t284 bt287.1 (bt287.2 != (decide (bt295.1 ≤ 8388608)))) else (laws_FnCodes.j0 k t284 bt287.1 (bt287.2 != false))) else (laws_FnCodes.j0 k t284 bt287.1 true))) else (laws_FnCodes.j0 k t284 bt287.1 true)))))))))) = some r := h
  clear h
  by_cases c2 : (l0.length : Int) > 1048576
  · rw [if_pos c2] at H
    have c2b0 : decide (1048576 < (l0.length : Int)) = true := decide_eq_true c2
    have c2b1 : decide (1048576 < l0.length) = true := decide_eq_true (by omega)
    clear c2
    obtain rfl := Option.some.inj H
    go_enter Try.func5, Try.ntmps5
    go_wp2
    go_ret
    exact ⟨by first | rfl | (simp [errW_none, errW_some] <;> rfl) | (simp [*, errW_none, errW_some] <;> rfl), by repeat (first | (with_reducible first | exact HB.out | apply below_alloc | apply pw_below_drewN | apply below_drew1) | exact HB.out)⟩
  · rw [if_neg c2] at H
    have c2b0 : decide (1048576 < (l0.length : Int)) = false := decide_eq_false c2
    have c2b1 : decide (1048576 < l0.length) = false := decide_eq_false (by omega)
    clear c2
    replace H := Option.bind_eq_some_iff.mp H
    obtain ⟨t284, A30, H⟩ := H
    replace H : ((impl_CodesOf.f k t284).bind fun bt287 => ((spec_CodesOf.f k t284).bind fun bt291 => ((impl_KraftOf.f k t284).bind fun bt295 => ((spec_KraftOf.f k t284).bind fun bt297 => (if (bt287.2 != bt291.2) = true then (laws_FnCodes.j0 k t284 bt287.1 true) else ((laws_sameTexts.f k bt287.1 bt291.1).bind fun t299 => (if t299 = true then (if (bt295.2 != bt297.2) = true then (laws_FnCodes.j0 k t284 bt287.1 true) else (if bt295.1 = bt297.1 then (if bt295.2 = true then (laws_FnCodes.j0 k t284 bt287.1 (bt287.2 != (decide (bt295.1 ≤ 8388608)))) else (laws_FnCodes.j0 k t284 bt287.1 (bt287.2 != false))) else (laws_FnCodes.j0 k t284 bt287.1 true))) else (laws_FnCodes.j0 k t284 bt287.1 true)))))))) = some r := H
    have A3 := Aside0.mk A30
    clear A30
    replace H := Option.bind_eq_some_iff.mp H
    obtain ⟨⟨t287, t288⟩, A40, H⟩ := H
    replace H : ((spec_CodesOf.f k t284).bind fun bt291 => ((impl_KraftOf.f k t284).bind fun bt295 => ((spec_KraftOf.f k t284).bind fun bt297 => (if (t288 != bt291.2) = true then (laws_FnCodes.j0 k t284 t287 true) else ((laws_sameTexts.f k t287 bt291.1).bind fun t299 => (if t299 = true then (if (bt295.2 != bt297.2) = true then (laws_FnCodes.j0 k t284 t287 true) else (if bt295.1 = bt297.1 then (if bt295.2 = true then (laws_FnCodes.j0 k t284 t287 (t288 != (decide (bt295.1 ≤ 8388608)))) else (laws_FnCodes.j0 k t284 t287 (t288 != false))) else (laws_FnCodes.j0 k t284 t287 true))) else (laws_FnCodes.j0 k t284 t287 true))))))) = some r := H
    have A4 := Aside0.mk A40
    clear A40
    replace H := Option.bind_eq_some_iff.mp H
    obtain ⟨⟨t291, t292⟩, A50, H⟩ := H
    replace H : ((impl_KraftOf.f k t284).bind fun bt295 => ((spec_KraftOf.f k t284).bind fun bt297 => (if (t288 != t292) = true then (laws_FnCodes.j0 k t284 t287 true) else ((laws_sameTexts.f k t287 t291).bind fun t299 => (if t299 = true then (if (bt295.2 != bt297.2) = true then (laws_FnCodes.j0 k t284 t287 true) else (if bt295.1 = bt297.1 then (if bt295.2 = true then (laws_FnCodes.j0 k t284 t287 (t288 != (decide (bt295.1 ≤ 8388608)))) else (laws_FnCodes.j0 k t284 t287 (t288 != false))) else (laws_FnCodes.j0 k t284 t287 true))) else (laws_FnCodes.j0 k t284 t287 true)))))) = some r := H
    have A5 := Aside0.mk A50
    clear A50
    replace H := Option.bind_eq_some_iff.mp H
    obtain ⟨⟨t295, t296⟩, A60, H⟩ := H
    replace H : ((spec_KraftOf.f k t284).bind fun bt297 => (if (t288 != t292) = true then (laws_FnCodes.j0 k t284 t287 true) else ((laws_sameTexts.f k t287 t291).bind fun t299 => (if t299 = true then (if (t296 != bt297.2) = true then (laws_FnCodes.j0 k t284 t287 true) else (if t295 = bt297.1 then (if t296 = true then (laws_FnCodes.j0 k t284 t287 (t288 != (decide (t295 ≤ 8388608)))) else (laws_FnCodes.j0 k t284 t287 (t288 != false))) else (laws_FnCodes.j0 k t284 t287 true))) else (laws_FnCodes.j0 k t284 t287 true))))) = some r := H
    have A6 := Aside0.mk A60
    clear A60
    replace H := Option.bind_eq_some_iff.mp H
    obtain ⟨⟨t297, t298⟩, A70, H⟩ := H
    replace H : (if (t288 != t292) = true then (laws_FnCodes.j0 k t284 t287 true) else ((laws_sameTexts.f k t287 t291).bind fun t299 => (if t299 = true then (if (t296 != t298) = true then (laws_FnCodes.j0 k t284 t287 true) else (if t295 = t297 then (if t296 = true then (laws_FnCodes.j0 k t284 t287 (t288 != (decide (t295 ≤ 8388608)))) else (laws_FnCodes.j0 k t284 t287 (t288 != false))) else (laws_FnCodes.j0 k t284 t287 true))) else (laws_FnCodes.j0 k t284 t287 true)))) = some r := H
    have A7 := Aside0.mk A70
    clear A70
    have HC8 := Aside0.mk H
    clear H
    go_enter Try.func5, Try.ntmps5
    go_upto_region 8 with (first | ((with_reducible refine gate_callee (f := 24) rfl ?_); refine goesL_ (some 20) rfl rfl Try.func24 (by kernel_rfl) rfl #[.slice A0 l0.length c0] rfl (by (try simp only [List.map_toArray, List.map_cons, List.map_nil]); first | done | rfl | (simp only [List.length_drop, List.length_take]; rfl)) ?_; (with_reducible refine (spec_DrawCodesOf.calls k _ _ l0 t284 _ ?side1 ?side2 A3.out).mono ?_); (case side1 => repeat (first | exact HR0.out | (with_reducible refine Kd.C_alloc ?_ _) | (with_reducible refine Kd.C_drewN ?_ _) | (with_reducible refine Kd.C_drew ?_))); (case side2 => exact HC0.out); rintro e w9 ⟨v285, rfl, ho0, hb⟩; refine ⟨_, rfl, ?_⟩; have n0_ := Aside0.mk (Kd.R_lower ho0 (below_size (by repeat (first | (with_reducible first | exact HB.out | apply below_alloc | apply pw_below_drewN | apply below_drew1) | exact HB.out)))); have n1_ := Aside0.mk (below_step (by repeat (first | (with_reducible first | exact HB.out | apply below_alloc | apply pw_below_drewN | apply below_drew1) | exact HB.out)) hb); clear HB; have HO286 := n0_; have HB := n1_; clear n0_ n1_; (try clear hb); (try clear hb2); (try clear hk); (try clear hi); (try clear ho0); obtain ⟨Ao10, co10, eo10⟩ := Kd.R_slice HO286.out; subst eo10) | ((with_reducible refine gate_callee (f := 25) rfl ?_); refine goesL_ (some 23) rfl rfl Try.func25 (by kernel_rfl) rfl #[.slice Ao10 t284.length co10] rfl (by (try simp only [List.map_toArray, List.map_cons, List.map_nil]); first | done | rfl | (simp only [List.length_drop, List.length_take]; rfl)) ?_; (with_reducible refine (impl_CodesOf.calls k _ _ t284 t287 t288 _ ?side1 ?side2 A4.out).mono ?_); (case side1 => repeat (first | exact (Kd.R_reads' HO286.out).2.2 | (with_reducible refine Kd.C_alloc ?_ _) | (with_reducible refine Kd.C_drewN ?_ _) | (with_reducible refine Kd.C_drew ?_))); (case side2 => exact (Kd.R_reads' HO286.out).2.1); rintro e w11 ⟨v289, rfl, ho0, hb⟩; refine ⟨_, rfl, ?_⟩; have n0_ := Aside0.mk (Kd.R_below (by (with_reducible repeat (first | apply Kd.R_alloc | apply Kd.R_drewN | apply Kd.R_drew)); exact HO286.out) hb); have n1_ := Aside0.mk (Kd.R_lower ho0 (below_size (by repeat (first | (with_reducible first | exact HB.out | apply below_alloc | apply pw_below_drewN | apply below_drew1) | exact HB.out)))); have n2_ := Aside0.mk (below_step (by repeat (first | (with_reducible first | exact HB.out | apply below_alloc | apply pw_below_drewN | apply below_drew1) | exact HB.out)) hb); clear HO286; clear HB; have HO286 := n0_; have HO290 := n1_; have HB := n2_; clear n0_ n1_ n2_; (try clear hb); (try clear hb2); (try clear hk); (try clear hi); (try clear ho0)) | ((with_reducible refine gate_callee (f := 26) rfl ?_); refine goesL_ (some 28) rfl rfl Try.func26 (by kernel_rfl) rfl #[.slice Ao10 t284.length co10] rfl (by (try simp only [List.map_toArray, List.map_cons, List.map_nil]); first | done | rfl | (simp only [List.length_drop, List.length_take]; rfl)) ?_; (with_reducible refine (spec_CodesOf.calls k _ _ t284 t291 t292 _ ?side1 ?side2 A5.out).mono ?_); (case side1 => repeat (first | exact (Kd.R_reads' HO286.out).2.2 | (with_reducible refine Kd.C_alloc ?_ _) | (with_reducible refine Kd.C_drewN ?_ _) | (with_reducible refine Kd.C_drew ?_))); (case side2 => exact (Kd.R_reads' HO286.out).2.1); rintro e w12 ⟨v293, rfl, ho0, hb⟩; refine ⟨_, rfl, ?_⟩; have n0_ := Aside0.mk (Kd.R_below (by (with_reducible repeat (first | apply Kd.R_alloc | apply Kd.R_drewN | apply Kd.R_drew)); exact HO286.out) hb); have n1_ := Aside0.mk (Kd.R_elder' (by (with_reducible repeat (first | apply Kd.R_alloc | apply Kd.R_drewN | apply Kd.R_drew)); exact HO290.out) (Kd.R_base ho0) hb); have n2_ := Aside0.mk (Kd.R_lower (Kd.R_new' ho0 (Kd.R_lt (by (with_reducible repeat (first | apply Kd.R_alloc | apply Kd.R_drewN | apply Kd.R_drew)); exact HO290.out))) (below_size (by repeat (first | (with_reducible first | exact HB.out | apply below_alloc | apply pw_below_drewN | apply below_drew1) | exact HB.out)))); have n3_ := Aside0.mk (below_step (by repeat (first | (with_reducible first | exact HB.out | apply below_alloc | apply pw_below_drewN | apply below_drew1) | exact HB.out)) hb); clear HO286; clear HO290; clear HB; have HO286 := n0_; have HO290 := n1_; have HO294 := n2_; have HB := n3_; clear n0_ n1_ n2_ n3_; (try clear hb); (try clear hb2); (try clear hk); (try clear hi); (try clear ho0)) | ((with_reducible refine gate_callee (f := 27) rfl ?_); refine goesL_ (some 33) rfl rfl Try.func27 (by kernel_rfl) rfl #[.slice Ao10 t284.length co10] rfl (by (try simp only [List.map_toArray, List.map_cons, List.map_nil]); first | done | rfl | (simp only [List.length_drop, List.length_take]; rfl)) ?_; (with_reducible refine (impl_KraftOf.calls k _ _ t284 t295 t296 _ ?side1 ?side2 A6.out).mono ?_); (case side1 => repeat (first | exact (Kd.R_reads' HO286.out).2.2 | (with_reducible refine Kd.C_alloc ?_ _) | (with_reducible refine Kd.C_drewN ?_ _) | (with_reducible refine Kd.C_drew ?_))); (case side2 => exact (Kd.R_reads' HO286.out).2.1); rintro e w13 ⟨rfl, hb⟩; refine ⟨_, rfl, ?_⟩; have n0_ := Aside0.mk (Kd.R_below (by (with_reducible repeat (first | apply Kd.R_alloc | apply Kd.R_drewN | apply Kd.R_drew)); exact HO286.out) hb); have n1_ := Aside0.mk (Kd.R_below (by (with_reducible repeat (first | apply Kd.R_alloc | apply Kd.R_drewN | apply Kd.R_drew)); exact HO290.out) hb); have n2_ := Aside0.mk (Kd.R_below (by (with_reducible repeat (first | apply Kd.R_alloc | apply Kd.R_drewN | apply Kd.R_drew)); exact HO294.out) hb); have n3_ := Aside0.mk (below_step (by repeat (first | (with_reducible first | exact HB.out | apply below_alloc | apply pw_below_drewN | apply below_drew1) | exact HB.out)) hb); clear HO286; clear HO290; clear HO294; clear HB; have HO286 := n0_; have HO290 := n1_; have HO294 := n2_; have HB := n3_; clear n0_ n1_ n2_ n3_; (try clear hb); (try clear hb2); (try clear hk); (try clear hi)) | ((with_reducible refine gate_callee (f := 28) rfl ?_); refine goesL_ (some 38) rfl rfl Try.func28 (by kernel_rfl) rfl #[.slice Ao10 t284.length co10] rfl (by (try simp only [List.map_toArray, List.map_cons, List.map_nil]); first | done | rfl | (simp only [List.length_drop, List.length_take]; rfl)) ?_; (with_reducible refine (spec_KraftOf.calls k _ _ t284 t297 t298 _ ?side1 ?side2 A7.out).mono ?_); (case side1 => repeat (first | exact (Kd.R_reads' HO286.out).2.2 | (with_reducible refine Kd.C_alloc ?_ _) | (with_reducible refine Kd.C_drewN ?_ _) | (with_reducible refine Kd.C_drew ?_))); (case side2 => exact (Kd.R_reads' HO286.out).2.1); rintro e w' ⟨rfl, ⟨nd, rfl⟩⟩; refine ⟨_, rfl, ?_⟩))
    (try simp only [Act.put, List.setIfInBounds_toArray, List.set_cons_zero, List.set_cons_succ])
    go_cut [68] (fun v68 wc => ∃ (kq : Nat) (x68_7 : Bool), v68 = .bool x68_7 ∧ Aside0 (laws_FnCodes.j0 kq t284 t287 x68_7 = some r) ∧ Aside0 (kq ≤ k) ∧ Aside0 (Kd.R (Kd.int .i64) 3 wc w.heap.size (fun _ => True) (.slice Ao10 t284.length co10) t284) ∧ Aside0 (Kd.R Kd.string 9 wc w.heap.size (fun _ => True) v289 t287) ∧ Aside0 (Below w.heap.size w wc))
    case first =>
      have H := HC8.out
      clear HC8
      by_cases c14 : (t288 != t292) = true
      · rw [if_pos c14] at H
        have c14b0 : (t288 != t292) = true := c14
        (try (have c14b1 : decide (t288 = t292) = false := by simpa using c14))
        (try (have c14b2 : (t288 == t292) = false := by simpa using c14))
        (try (have c14b3 : ¬ (t288 = t292) := by simpa using c14))
        clear c14
        (first | rw [c14b0] | (simp only [i64_w, i32_w]; rw [c14b0]) | skip)
        have H' := Aside0.mk H
        clear H
        go_wp2
        go_meet
        case rel => exact ⟨_, (true), (by first | rfl | (simp; done) | (simp [*]; done)), H', ⟨by first | omega | exact Nat.le_refl _⟩, ⟨by (with_reducible repeat (first | apply Kd.R_alloc | apply Kd.R_drewN | apply Kd.R_drew)); exact HO286.out⟩, ⟨by (with_reducible repeat (first | apply Kd.R_alloc | apply Kd.R_drewN | apply Kd.R_drew)); exact Kd.R_mono HO290.out (fun _ hk => trivial)⟩, ⟨by repeat (first | (with_reducible first | exact HB.out | apply below_alloc | apply pw_below_drewN | apply below_drew1) | exact HB.out)⟩⟩
      · rw [if_neg c14] at H
        have c14b0 : (t288 != t292) = false := by simpa using c14
        (try (have c14b1 : decide (t288 = t292) = true := by simpa using c14))
        (try (have c14b2 : (t288 == t292) = true := by simpa using c14))
        clear c14
        (first | rw [c14b0] | (simp only [i64_w, i32_w]; rw [c14b0]) | skip)
        replace H := Option.bind_eq_some_iff.mp H
        obtain ⟨t299, A150, H⟩ := H
        replace H : (if t299 = true then (if (t296 != t298) = true then (laws_FnCodes.j0 k t284 t287 true) else (if t295 = t297 then (if t296 = true then (laws_FnCodes.j0 k t284 t287 (t288 != (decide (t295 ≤ 8388608)))) else (laws_FnCodes.j0 k t284 t287 (t288 != false))) else (laws_FnCodes.j0 k t284 t287 true))) else (laws_FnCodes.j0 k t284 t287 true)) = some r := H
        have A15 := Aside0.mk A150
        clear A150
        by_cases c16 : t299 = true
        · subst c16
          have H1 : (if (t296 != t298) = true then (laws_FnCodes.j0 k t284 t287 true) else (if t295 = t297 then (if t296 = true then (laws_FnCodes.j0 k t284 t287 (t288 != (decide (t295 ≤ 8388608)))) else (laws_FnCodes.j0 k t284 t287 (t288 != false))) else (laws_FnCodes.j0 k t284 t287 true))) = some r := by rw [if_pos rfl] at H; exact H
          clear H
          have H := H1
          clear H1
          by_cases c17 : (t296 != t298) = true
          · rw [if_pos c17] at H
            have c17b0 : (t296 != t298) = true := c17
            (try (have c17b1 : decide (t296 = t298) = false := by simpa using c17))
            (try (have c17b2 : (t296 == t298) = false := by simpa using c17))
            (try (have c17b3 : ¬ (t296 = t298) := by simpa using c17))
            clear c17
            have H' := Aside0.mk H
            clear H
            obtain ⟨Ao18, co18, eo18⟩ := Kd.R_slice HO290.out
            subst eo18
            obtain ⟨Ao19, co19, eo19⟩ := Kd.R_slice HO294.out
            subst eo19
            go_wp2_with (first | (go_at_call 29; (with_reducible refine (laws_sameTexts.calls k _ _ t287 _ _ t291 true _ ?side1 ?side2 ?side3 ?side4 A15.out).mono ?_); (case side1 => repeat (first | exact (Kd.R_reads' HO290.out).2.2 | (with_reducible refine Kd.C_alloc ?_ _) | (with_reducible refine Kd.C_drewN ?_ _) | (with_reducible refine Kd.C_drew ?_))); (case side2 => exact (Kd.R_reads' HO290.out).2.1); (case side3 => repeat (first | exact (Kd.R_reads' HO294.out).2.2 | (with_reducible refine Kd.C_alloc ?_ _) | (with_reducible refine Kd.C_drewN ?_ _) | (with_reducible refine Kd.C_drew ?_))); (case side4 => exact (Kd.R_reads' HO294.out).2.1); rintro e w' ⟨rfl, ⟨nd, rfl⟩⟩))
            go_meet
            case rel => exact ⟨_, (true), (by first | rfl | (simp; done) | (simp [*]; done)), H', ⟨by first | omega | exact Nat.le_refl _⟩, ⟨by (with_reducible repeat (first | apply Kd.R_alloc | apply Kd.R_drewN | apply Kd.R_drew)); exact HO286.out⟩, ⟨by (with_reducible repeat (first | apply Kd.R_alloc | apply Kd.R_drewN | apply Kd.R_drew)); exact Kd.R_mono HO290.out (fun _ hk => trivial)⟩, ⟨by repeat (first | (with_reducible first | exact HB.out | apply below_alloc | apply pw_below_drewN | apply below_drew1) | exact HB.out)⟩⟩
          · rw [if_neg c17] at H
            have c17b0 : (t296 != t298) = false := by simpa using c17
            (try (have c17b1 : decide (t296 = t298) = true := by simpa using c17))
            (try (have c17b2 : (t296 == t298) = true := by simpa using c17))
            clear c17
            by_cases c20 : t295 = t297
            · rw [if_pos c20] at H
              have c20b0 : (t295 == t297) = true := beq_iff_eq.mpr c20
              have c20b1 : (t295 != t297) = false := bne_eq_false_iff_eq.mpr c20
              clear c20
              by_cases c21 : t296 = true
              · subst c21
                have H1 : (laws_FnCodes.j0 k t284 t287 (t288 != (decide (t295 ≤ 8388608)))) = some r := by rw [if_pos rfl] at H; exact H
                clear H
                have H := H1
                clear H1
                have H' := Aside0.mk H
                clear H
                obtain ⟨Ao22, co22, eo22⟩ := Kd.R_slice HO290.out
                subst eo22
                obtain ⟨Ao23, co23, eo23⟩ := Kd.R_slice HO294.out
                subst eo23
                go_wp2_with (first | (go_at_call 29; (with_reducible refine (laws_sameTexts.calls k _ _ t287 _ _ t291 true _ ?side1 ?side2 ?side3 ?side4 A15.out).mono ?_); (case side1 => repeat (first | exact (Kd.R_reads' HO290.out).2.2 | (with_reducible refine Kd.C_alloc ?_ _) | (with_reducible refine Kd.C_drewN ?_ _) | (with_reducible refine Kd.C_drew ?_))); (case side2 => exact (Kd.R_reads' HO290.out).2.1); (case side3 => repeat (first | exact (Kd.R_reads' HO294.out).2.2 | (with_reducible refine Kd.C_alloc ?_ _) | (with_reducible refine Kd.C_drewN ?_ _) | (with_reducible refine Kd.C_drew ?_))); (case side4 => exact (Kd.R_reads' HO294.out).2.1); rintro e w' ⟨rfl, ⟨nd, rfl⟩⟩))
                go_meet
                case rel => exact ⟨_, ((t288 != (decide (t295 ≤ 8388608)))), (by first | rfl | (simp; done) | (simp [*]; done)), H', ⟨by first | omega | exact Nat.le_refl _⟩, ⟨by (with_reducible repeat (first | apply Kd.R_alloc | apply Kd.R_drewN | apply Kd.R_drew)); exact HO286.out⟩, ⟨by (with_reducible repeat (first | apply Kd.R_alloc | apply Kd.R_drewN | apply Kd.R_drew)); exact Kd.R_mono HO290.out (fun _ hk => trivial)⟩, ⟨by repeat (first | (with_reducible first | exact HB.out | apply below_alloc | apply pw_below_drewN | apply below_drew1) | exact HB.out)⟩⟩
              · replace c21 := Bool.eq_false_iff.mpr c21
                subst c21
                have H1 : (laws_FnCodes.j0 k t284 t287 (t288 != false)) = some r := by rw [if_neg (show ¬ (false = true) by decide)] at H; exact H
                clear H
                have H := H1
                clear H1
                have H' := Aside0.mk H
                clear H
                obtain ⟨Ao24, co24, eo24⟩ := Kd.R_slice HO290.out
                subst eo24
                obtain ⟨Ao25, co25, eo25⟩ := Kd.R_slice HO294.out
                subst eo25
                go_wp2_with (first | (go_at_call 29; (with_reducible refine (laws_sameTexts.calls k _ _ t287 _ _ t291 true _ ?side1 ?side2 ?side3 ?side4 A15.out).mono ?_); (case side1 => repeat (first | exact (Kd.R_reads' HO290.out).2.2 | (with_reducible refine Kd.C_alloc ?_ _) | (with_reducible refine Kd.C_drewN ?_ _) | (with_reducible refine Kd.C_drew ?_))); (case side2 => exact (Kd.R_reads' HO290.out).2.1); (case side3 => repeat (first | exact (Kd.R_reads' HO294.out).2.2 | (with_reducible refine Kd.C_alloc ?_ _) | (with_reducible refine Kd.C_drewN ?_ _) | (with_reducible refine Kd.C_drew ?_))); (case side4 => exact (Kd.R_reads' HO294.out).2.1); rintro e w' ⟨rfl, ⟨nd, rfl⟩⟩))
                go_meet
                case rel => exact ⟨_, ((t288 != false)), (by first | rfl | (simp; done) | (simp [*]; done)), H', ⟨by first | omega | exact Nat.le_refl _⟩, ⟨by (with_reducible repeat (first | apply Kd.R_alloc | apply Kd.R_drewN | apply Kd.R_drew)); exact HO286.out⟩, ⟨by (with_reducible repeat (first | apply Kd.R_alloc | apply Kd.R_drewN | apply Kd.R_drew)); exact Kd.R_mono HO290.out (fun _ hk => trivial)⟩, ⟨by repeat (first | (with_reducible first | exact HB.out | apply below_alloc | apply pw_below_drewN | apply below_drew1) | exact HB.out)⟩⟩
            · rw [if_neg c20] at H
              have c20b0 : (t295 == t297) = false := beq_eq_false_iff_ne.mpr c20
              have c20b1 : (t295 != t297) = true := bne_iff_ne.mpr c20
              have H' := Aside0.mk H
              clear H
              obtain ⟨Ao26, co26, eo26⟩ := Kd.R_slice HO290.out
              subst eo26
              obtain ⟨Ao27, co27, eo27⟩ := Kd.R_slice HO294.out
              subst eo27
              go_wp2_with (first | (go_at_call 29; (with_reducible refine (laws_sameTexts.calls k _ _ t287 _ _ t291 true _ ?side1 ?side2 ?side3 ?side4 A15.out).mono ?_); (case side1 => repeat (first | exact (Kd.R_reads' HO290.out).2.2 | (with_reducible refine Kd.C_alloc ?_ _) | (with_reducible refine Kd.C_drewN ?_ _) | (with_reducible refine Kd.C_drew ?_))); (case side2 => exact (Kd.R_reads' HO290.out).2.1); (case side3 => repeat (first | exact (Kd.R_reads' HO294.out).2.2 | (with_reducible refine Kd.C_alloc ?_ _) | (with_reducible refine Kd.C_drewN ?_ _) | (with_reducible refine Kd.C_drew ?_))); (case side4 => exact (Kd.R_reads' HO294.out).2.1); rintro e w' ⟨rfl, ⟨nd, rfl⟩⟩))
              go_meet
              case rel => exact ⟨_, (true), (by first | rfl | (simp; done) | (simp [*]; done)), H', ⟨by first | omega | exact Nat.le_refl _⟩, ⟨by (with_reducible repeat (first | apply Kd.R_alloc | apply Kd.R_drewN | apply Kd.R_drew)); exact HO286.out⟩, ⟨by (with_reducible repeat (first | apply Kd.R_alloc | apply Kd.R_drewN | apply Kd.R_drew)); exact Kd.R_mono HO290.out (fun _ hk => trivial)⟩, ⟨by repeat (first | (with_reducible first | exact HB.out | apply below_alloc | apply pw_below_drewN | apply below_drew1) | exact HB.out)⟩⟩
        · replace c16 := Bool.eq_false_iff.mpr c16
          subst c16
          have H1 : (laws_FnCodes.j0 k t284 t287 true) = some r := by rw [if_neg (show ¬ (false = true) by decide)] at H; exact H
          clear H
          have H := H1
          clear H1
          have H' := Aside0.mk H
          clear H
          obtain ⟨Ao28, co28, eo28⟩ := Kd.R_slice HO290.out
          subst eo28
          obtain ⟨Ao29, co29, eo29⟩ := Kd.R_slice HO294.out
          subst eo29
          go_wp2_with (first | (go_at_call 29; (with_reducible refine (laws_sameTexts.calls k _ _ t287 _ _ t291 false _ ?side1 ?side2 ?side3 ?side4 A15.out).mono ?_); (case side1 => repeat (first | exact (Kd.R_reads' HO290.out).2.2 | (with_reducible refine Kd.C_alloc ?_ _) | (with_reducible refine Kd.C_drewN ?_ _) | (with_reducible refine Kd.C_drew ?_))); (case side2 => exact (Kd.R_reads' HO290.out).2.1); (case side3 => repeat (first | exact (Kd.R_reads' HO294.out).2.2 | (with_reducible refine Kd.C_alloc ?_ _) | (with_reducible refine Kd.C_drewN ?_ _) | (with_reducible refine Kd.C_drew ?_))); (case side4 => exact (Kd.R_reads' HO294.out).2.1); rintro e w' ⟨rfl, ⟨nd, rfl⟩⟩))
          go_meet
          case rel => exact ⟨_, (true), (by first | rfl | (simp; done) | (simp [*]; done)), H', ⟨by first | omega | exact Nat.le_refl _⟩, ⟨by (with_reducible repeat (first | apply Kd.R_alloc | apply Kd.R_drewN | apply Kd.R_drew)); exact HO286.out⟩, ⟨by (with_reducible repeat (first | apply Kd.R_alloc | apply Kd.R_drewN | apply Kd.R_drew)); exact Kd.R_mono HO290.out (fun _ hk => trivial)⟩, ⟨by repeat (first | (with_reducible first | exact HB.out | apply below_alloc | apply pw_below_drewN | apply below_drew1) | exact HB.out)⟩⟩
    case rest =>
      clear HC8
      try clear c1
      try clear c2
      try clear c2b0
      try clear c2b1
      try clear p2
      try clear c5
      try clear c14
      try clear c14b0
      try clear c14b1
      try clear c14b2
      try clear c16
      try clear c17
      try clear c17b0
      try clear c17b1
      try clear c17b2
      try clear c20
      try clear c20b0
      try clear c20b1
      try clear c21
      try clear c24
      try clear c25
      try clear c26
      try clear c27
      try clear c28
      obtain ⟨kq, x68_7, rfl, HA, HJ7, HO_3, HO_4, HB⟩ := hcut
      cases kq with
      | zero => exact absurd HA.out (by simp [laws_FnCodes.j0])
      | succ kj7 =>
        have H := HA.out
        clear HA
        simp only [laws_FnCodes.j0] at H
        by_cases c30 : x68_7 = true
        · subst c30
          have H1 : (some false) = some r := by rw [if_pos rfl] at H; exact H
          clear H
          have H := H1
          clear H1
          obtain rfl := Option.some.inj H
          go_wp2
          go_ret
          exact ⟨by first | rfl | (simp [errW_none, errW_some] <;> rfl) | (simp [*, errW_none, errW_some] <;> rfl), by repeat (first | (with_reducible first | exact HB.out | apply below_alloc | apply pw_below_drewN | apply below_drew1) | exact HB.out)⟩
        · replace c30 := Bool.eq_false_iff.mpr c30
          subst c30
          have H1 : (laws_FnCodes.l0 kj7 t284 t287 t287 (t287.length : Int) 0) = some r := by rw [if_neg (show ¬ (false = true) by decide)] at H; exact H
          clear H
          have H := H1
          clear H1
          have H' := Aside0.mk H
          clear H
          obtain ⟨Ao31, co31, eo31⟩ := Kd.R_slice HO_4.out
          subst eo31
          go_wp2
          go_loopg [71] kj7 (fun kq v71 w' => ∃ (x71_2 : Int), v71 = .int .i64 x71_2 ∧ Aside0 (laws_FnCodes.l0 kq t284 t287 t287 (t287.length : Int) x71_2 = some r) ∧ Aside0 (kq ≤ kj7) ∧ Aside0 (Kd.R (Kd.int .i64) 3 w' w.heap.size (fun _ => True) (.slice Ao10 t284.length co10) t284) ∧ Aside0 (Kd.R Kd.string 9 w' w.heap.size (fun _ => True) (.slice Ao31 t287.length co31) t287) ∧ Aside0 (Kd.R Kd.string 9 w' w.heap.size (fun _ => True) (.slice Ao31 t287.length co31) t287) ∧ Aside0 (Below w.heap.size w w'))
          case atStart => exact ⟨(0), (by first | rfl | (simp; done) | (simp [*]; done)), H', ⟨Nat.le_refl _⟩, ⟨by (with_reducible repeat (first | apply Kd.R_alloc | apply Kd.R_drewN | apply Kd.R_drew)); exact HO_3.out⟩, ⟨by (with_reducible repeat (first | apply Kd.R_alloc | apply Kd.R_drewN | apply Kd.R_drew)); exact HO_4.out⟩, ⟨by (with_reducible repeat (first | apply Kd.R_alloc | apply Kd.R_drewN | apply Kd.R_drew)); exact HO_4.out⟩, ⟨by repeat (first | (with_reducible first | exact HB.out | apply below_alloc | apply pw_below_drewN | apply below_drew1) | exact HB.out)⟩⟩
          case round =>
            clear H'
            try clear c1
            try clear c2
            try clear c2b0
            try clear c2b1
            try clear p2
            try clear c3
            try clear c5
            try clear c14
            try clear c14b0
            try clear c14b1
            try clear c14b2
            try clear c16
            try clear c17
            try clear c17b0
            try clear c17b1
            try clear c17b2
            try clear c20
            try clear c20b0
            try clear c20b1
            try clear c21
            try clear c24
            try clear c25
            try clear c26
            try clear c27
            try clear c28
            try clear c30
            try clear p2
            obtain ⟨x71_2, rfl, HA, HK2, HO_3, HO_4, HO_69, HB⟩ := hrel
            cases gk with
            | zero => exact absurd HA.out (by simp [laws_FnCodes.l0])
            | succ k2 =>
              have H := HA.out
              clear HA
              simp only [laws_FnCodes.l0] at H
              by_cases c32 : x71_2 < (t287.length : Int)
              · rw [if_pos c32] at H
                have c32b0 : decide (x71_2 < (t287.length : Int)) = true := decide_eq_true c32
                clear c32
                by_cases c33 : 0 ≤ x71_2
                · rw [if_pos c33] at H
                  have c33b0 : decide (0 ≤ x71_2) = true := decide_eq_true c33
                  clear c33
                  by_cases c34 : x71_2 < (t287.length : Int)
                  · rw [if_pos c34] at H
                    have c34b0 : decide (x71_2 < (t287.length : Int)) = true := decide_eq_true c34
                    clear c34
                    by_cases c35 : x71_2 < (t284.length : Int)
                    · rw [if_pos c35] at H
                      have c35b0 : decide (x71_2 < (t284.length : Int)) = true := decide_eq_true c35
                      clear c35
                      by_cases c36 : ((rdOf ByteArray.empty t287 x71_2).size : Int) = (rd t284 x71_2)
                      · rw [if_pos c36] at H
                        have c36b0 : (((rdOf ByteArray.empty t287 x71_2).size : Int) == (rd t284 x71_2)) = true := beq_iff_eq.mpr c36
                        have c36b1 : (((rdOf ByteArray.empty t287 x71_2).size : Int) != (rd t284 x71_2)) = false := bne_eq_false_iff_eq.mpr c36
                        clear c36
                        have H' := Aside0.mk H
                        clear H
                        have p300 : 0 ≤ (x71_2 : Int) := of_decide_eq_true (by first | (with_reducible assumption) | assumption)
                        have q300 : x71_2 < (t287.length : Int) := of_decide_eq_true (by first | (with_reducible assumption) | assumption)
                        obtain ⟨ad300, e300, hx300_0⟩ := Kd.at_string (Kd.R_reads' HO_69.out).2.2 x71_2 p300 q300
                        cases e300
                        replace p300 := eq_true p300
                        replace q300 := eq_true q300
                        have p301 : 0 ≤ (x71_2 : Int) := of_decide_eq_true (by first | (with_reducible assumption) | assumption)
                        have q301 : x71_2 < (t284.length : Int) := of_decide_eq_true (by first | (with_reducible assumption) | assumption)
                        obtain ⟨ad301, e301, hx301_0⟩ := Kd.at_int (Kd.R_reads' HO_3.out).2.2 x71_2 p301 q301
                        cases e301
                        replace p301 := eq_true p301
                        replace q301 := eq_true q301
                        go_wp2
                        go_loopg [85] k2 (fun kq v85 w' => ∃ (x85_3 : Int), v85 = .int .i64 x85_3 ∧ Aside0 (laws_FnCodes.l1 kq t284 t287 x71_2 (rdOf ByteArray.empty t287 x71_2) t287 (t287.length : Int) x71_2 t287 (t287.length : Int) x85_3 = some r) ∧ Aside0 (kq ≤ k2) ∧ Aside0 (Kd.R (Kd.int .i64) 3 w' w.heap.size (fun _ => True) (.slice (some ad301) t284.length co10) t284) ∧ Aside0 (Kd.R Kd.string 9 w' w.heap.size (fun _ => True) (.slice (some ad300) t287.length co31) t287) ∧ Aside0 (Kd.R Kd.string 9 w' w.heap.size (fun _ => True) (.slice (some ad300) t287.length co31) t287) ∧ Aside0 (Kd.R Kd.string 9 w' w.heap.size (fun _ => True) (.slice (some ad300) t287.length co31) t287) ∧ Aside0 (Below w.heap.size w w'))
                        case atStart => exact ⟨(0), (by first | rfl | (simp; done) | (simp [*]; done)), H', ⟨Nat.le_refl _⟩, ⟨by (with_reducible repeat (first | apply Kd.R_alloc | apply Kd.R_drewN | apply Kd.R_drew)); exact HO_3.out⟩, ⟨by (with_reducible repeat (first | apply Kd.R_alloc | apply Kd.R_drewN | apply Kd.R_drew)); exact HO_4.out⟩, ⟨by (with_reducible repeat (first | apply Kd.R_alloc | apply Kd.R_drewN | apply Kd.R_drew)); exact HO_69.out⟩, ⟨by (with_reducible repeat (first | apply Kd.R_alloc | apply Kd.R_drewN | apply Kd.R_drew)); exact HO_4.out⟩, ⟨by repeat (first | (with_reducible first | exact HB.out | apply below_alloc | apply pw_below_drewN | apply below_drew1) | exact HB.out)⟩⟩
                        case round =>
                          clear H'
                          try clear c1
                          try clear c2
                          try clear c2b0
                          try clear c2b1
                          try clear p2
                          try clear c3
                          try clear p3
                          try clear q3
                          try clear hx3
                          try clear c5
                          try clear c14
                          try clear c14b0
                          try clear c14b1
                          try clear c14b2
                          try clear c16
                          try clear c17
                          try clear c17b0
                          try clear c17b1
                          try clear c17b2
                          try clear c20
                          try clear c20b0
                          try clear c20b1
                          try clear c21
                          try clear c24
                          try clear c25
                          try clear c26
                          try clear c27
                          try clear c28
                          try clear c30
                          try clear p30
                          try clear q30
                          try clear hx30
                          try clear c32
                          try clear c32b0
                          try clear c33
                          try clear c33b0
                          try clear c34
                          try clear c34b0
                          try clear c35
                          try clear c35b0
                          try clear c36
                          try clear c36b0
                          try clear c36b1
                          try clear hx300_0
                          try clear hx301_0
                          try clear p2
                          try clear p300
                          try clear p301
                          try clear q300
                          try clear q301
                          obtain ⟨x85_3, rfl, HA, HK3, HO_3, HO_4, HO_69, HO_83, HB⟩ := hrel
                          cases gk with
                          | zero => exact absurd HA.out (by simp [laws_FnCodes.l1])
                          | succ k3 =>
                            have H := HA.out
                            clear HA
                            simp only [laws_FnCodes.l1] at H
                            by_cases c37 : x85_3 < (t287.length : Int)
                            · rw [if_pos c37] at H
                              have c37b0 : decide (x85_3 < (t287.length : Int)) = true := decide_eq_true c37
                              clear c37
                              by_cases c38 : 0 ≤ x85_3
                              · rw [if_pos c38] at H
                                have c38b0 : decide (0 ≤ x85_3) = true := decide_eq_true c38
                                clear c38
                                by_cases c39 : x85_3 < (t287.length : Int)
                                · rw [if_pos c39] at H
                                  have c39b0 : decide (x85_3 < (t287.length : Int)) = true := decide_eq_true c39
                                  clear c39
                                  have HC40 := Aside0.mk H
                                  clear H
                                  have p302 : 0 ≤ (x85_3 : Int) := of_decide_eq_true (by first | (with_reducible assumption) | assumption)
                                  have q302 : x85_3 < (t287.length : Int) := of_decide_eq_true (by first | (with_reducible assumption) | assumption)
                                  obtain ⟨ad302, e302, hx302_0⟩ := Kd.at_string (Kd.R_reads' HO_83.out).2.2 x85_3 p302 q302
                                  obtain rfl : ad300 = ad302 := (by injection e302)
                                  replace p302 := eq_true p302
                                  replace q302 := eq_true q302
                                  go_upto_region 18 with (fail)
                                  go_cut [111] (fun v111 wc => ∃ (kq : Nat) (x111_39 : Bool), v111 = .bool x111_39 ∧ Aside0 (laws_FnCodes.j3 kq t284 t287 x71_2 (rdOf ByteArray.empty t287 x71_2) x85_3 (rdOf ByteArray.empty t287 x85_3) t287 (t287.length : Int) x71_2 t287 (t287.length : Int) x85_3 x111_39 = some r) ∧ Aside0 (kq ≤ k3) ∧ Aside0 (Kd.R (Kd.int .i64) 3 wc w.heap.size (fun _ => True) (.slice (some ad301) t284.length co10) t284) ∧ Aside0 (Kd.R Kd.string 9 wc w.heap.size (fun _ => True) (.slice (some ad300) t287.length co31) t287) ∧ Aside0 (Kd.R Kd.string 9 wc w.heap.size (fun _ => True) (.slice (some ad300) t287.length co31) t287) ∧ Aside0 (Kd.R Kd.string 9 wc w.heap.size (fun _ => True) (.slice (some ad300) t287.length co31) t287) ∧ Aside0 (Below w.heap.size w wc))
                                  case first =>
                                    have H := HC40.out
                                    clear HC40
                                    by_cases c41 : x71_2 = x85_3
                                    · rw [if_pos c41] at H
                                      have c41b0 : (x71_2 == x85_3) = true := beq_iff_eq.mpr c41
                                      have c41b1 : (x71_2 != x85_3) = false := bne_eq_false_iff_eq.mpr c41
                                      clear c41
                                      (first | rw [c41b0] | (simp only [i64_w, i32_w]; rw [c41b0]) | skip)
                                      have H' := Aside0.mk H
                                      clear H
                                      go_wp2
                                      go_meet
                                      case rel => exact ⟨_, (false), (by first | rfl | (simp; done) | (simp [*]; done)), H', ⟨by have := HJ7.out; have := HK2.out; have := HK3.out; first | omega | exact Nat.le_refl _⟩, ⟨by (with_reducible repeat (first | apply Kd.R_alloc | apply Kd.R_drewN | apply Kd.R_drew)); exact HO_3.out⟩, ⟨by (with_reducible repeat (first | apply Kd.R_alloc | apply Kd.R_drewN | apply Kd.R_drew)); exact HO_4.out⟩, ⟨by (with_reducible repeat (first | apply Kd.R_alloc | apply Kd.R_drewN | apply Kd.R_drew)); exact HO_69.out⟩, ⟨by (with_reducible repeat (first | apply Kd.R_alloc | apply Kd.R_drewN | apply Kd.R_drew)); exact HO_83.out⟩, ⟨by repeat (first | (with_reducible first | exact HB.out | apply below_alloc | apply pw_below_drewN | apply below_drew1) | exact HB.out)⟩⟩
                                    · rw [if_neg c41] at H
                                      have c41b0 : (x71_2 == x85_3) = false := beq_eq_false_iff_ne.mpr c41
                                      have c41b1 : (x71_2 != x85_3) = true := bne_iff_ne.mpr c41
                                      (first | rw [c41b0] | (simp only [i64_w, i32_w]; rw [c41b0]) | skip)
                                      by_cases c42 : (rdOf ByteArray.empty t287 x71_2).toList = ([] : List UInt8)
                                      · rw [if_pos c42] at H
                                        have c42b0 : ((rdOf ByteArray.empty t287 x71_2).toList == ([] : List UInt8)) = true := beq_iff_eq.mpr c42
                                        have c42b1 : ((rdOf ByteArray.empty t287 x71_2).toList != ([] : List UInt8)) = false := bne_eq_false_iff_eq.mpr c42
                                        clear c42
                                        have H' := Aside0.mk H
                                        clear H
                                        go_wp2
                                        go_meet
                                        case rel => exact ⟨_, (false), (by first | rfl | (simp; done) | (simp [*]; done)), H', ⟨by have := HJ7.out; have := HK2.out; have := HK3.out; first | omega | exact Nat.le_refl _⟩, ⟨by (with_reducible repeat (first | apply Kd.R_alloc | apply Kd.R_drewN | apply Kd.R_drew)); exact HO_3.out⟩, ⟨by (with_reducible repeat (first | apply Kd.R_alloc | apply Kd.R_drewN | apply Kd.R_drew)); exact HO_4.out⟩, ⟨by (with_reducible repeat (first | apply Kd.R_alloc | apply Kd.R_drewN | apply Kd.R_drew)); exact HO_69.out⟩, ⟨by (with_reducible repeat (first | apply Kd.R_alloc | apply Kd.R_drewN | apply Kd.R_drew)); exact HO_83.out⟩, ⟨by repeat (first | (with_reducible first | exact HB.out | apply below_alloc | apply pw_below_drewN | apply below_drew1) | exact HB.out)⟩⟩
                                      · rw [if_neg c42] at H
                                        have c42b0 : ((rdOf ByteArray.empty t287 x71_2).toList == ([] : List UInt8)) = false := beq_eq_false_iff_ne.mpr c42
                                        have c42b1 : ((rdOf ByteArray.empty t287 x71_2).toList != ([] : List UInt8)) = true := bne_iff_ne.mpr c42
                                        by_cases c43 : ((rdOf ByteArray.empty t287 x85_3).size : Int) ≥ ((rdOf ByteArray.empty t287 x71_2).size : Int)
                                        · rw [if_pos c43] at H
                                          have c43b0 : decide (((rdOf ByteArray.empty t287 x71_2).size : Int) ≤ ((rdOf ByteArray.empty t287 x85_3).size : Int)) = true := decide_eq_true c43
                                          have c43b1 : decide ((rdOf ByteArray.empty t287 x71_2).size ≤ (rdOf ByteArray.empty t287 x85_3).size) = true := decide_eq_true (Int.ofNat_le.mp c43)
                                          clear c43
                                          by_cases c44 : 0 ≤ ((rdOf ByteArray.empty t287 x71_2).size : Int)
                                          · rw [if_pos c44] at H
                                            have c44b0 := eq_true c44
                                            have c44b1 : decide (0 ≤ ((rdOf ByteArray.empty t287 x71_2).size : Int)) = true := decide_eq_true c44
                                            clear c44
                                            by_cases c45 : ((rdOf ByteArray.empty t287 x71_2).size : Int) ≤ ((rdOf ByteArray.empty t287 x85_3).size : Int)
                                            · rw [if_pos c45] at H
                                              have c45b0 := eq_true c45
                                              have c45b1 : decide (((rdOf ByteArray.empty t287 x71_2).size : Int) ≤ ((rdOf ByteArray.empty t287 x85_3).size : Int)) = true := decide_eq_true c45
                                              clear c45
                                              have H' := Aside0.mk H
                                              clear H
                                              go_wp2
                                              go_meet
                                              case rel => exact ⟨_, ((((rdOf ByteArray.empty t287 x85_3).extract 0 (((rdOf ByteArray.empty t287 x71_2).size : Int) : Int).toNat).toList == (rdOf ByteArray.empty t287 x71_2).toList)), (by first | rfl | (simp; done) | (simp [*]; done)), H', ⟨by have := HJ7.out; have := HK2.out; have := HK3.out; first | omega | exact Nat.le_refl _⟩, ⟨by (with_reducible repeat (first | apply Kd.R_alloc | apply Kd.R_drewN | apply Kd.R_drew)); exact HO_3.out⟩, ⟨by (with_reducible repeat (first | apply Kd.R_alloc | apply Kd.R_drewN | apply Kd.R_drew)); exact HO_4.out⟩, ⟨by (with_reducible repeat (first | apply Kd.R_alloc | apply Kd.R_drewN | apply Kd.R_drew)); exact HO_69.out⟩, ⟨by (with_reducible repeat (first | apply Kd.R_alloc | apply Kd.R_drewN | apply Kd.R_drew)); exact HO_83.out⟩, ⟨by repeat (first | (with_reducible first | exact HB.out | apply below_alloc | apply pw_below_drewN | apply below_drew1) | exact HB.out)⟩⟩
                                            · rw [if_neg c45] at H
                                              exact absurd H (by simp)
                                          · rw [if_neg c44] at H
                                            exact absurd H (by simp)
                                        · rw [if_neg c43] at H
                                          have c43b0 : decide (((rdOf ByteArray.empty t287 x71_2).size : Int) ≤ ((rdOf ByteArray.empty t287 x85_3).size : Int)) = false := decide_eq_false c43
                                          have c43b1 : decide ((rdOf ByteArray.empty t287 x71_2).size ≤ (rdOf ByteArray.empty t287 x85_3).size) = false := decide_eq_false (fun h => c43 (Int.ofNat_le.mpr h))
                                          clear c43
                                          have H' := Aside0.mk H
                                          clear H
                                          go_wp2
                                          go_meet
                                          case rel => exact ⟨_, (false), (by first | rfl | (simp; done) | (simp [*]; done)), H', ⟨by have := HJ7.out; have := HK2.out; have := HK3.out; first | omega | exact Nat.le_refl _⟩, ⟨by (with_reducible repeat (first | apply Kd.R_alloc | apply Kd.R_drewN | apply Kd.R_drew)); exact HO_3.out⟩, ⟨by (with_reducible repeat (first | apply Kd.R_alloc | apply Kd.R_drewN | apply Kd.R_drew)); exact HO_4.out⟩, ⟨by (with_reducible repeat (first | apply Kd.R_alloc | apply Kd.R_drewN | apply Kd.R_drew)); exact HO_69.out⟩, ⟨by (with_reducible repeat (first | apply Kd.R_alloc | apply Kd.R_drewN | apply Kd.R_drew)); exact HO_83.out⟩, ⟨by repeat (first | (with_reducible first | exact HB.out | apply below_alloc | apply pw_below_drewN | apply below_drew1) | exact HB.out)⟩⟩
                                  case rest =>
                                    clear HC40
                                    try clear c1
                                    try clear c2
                                    try clear c2b0
                                    try clear c2b1
                                    try clear p2
                                    try clear c3
                                    try clear p3
                                    try clear q3
                                    try clear hx3
                                    try clear c4
                                    try clear c5
                                    try clear c14
                                    try clear c14b0
                                    try clear c14b1
                                    try clear c14b2
                                    try clear c16
                                    try clear c17
                                    try clear c17b0
                                    try clear c17b1
                                    try clear c17b2
                                    try clear c20
                                    try clear c20b0
                                    try clear c20b1
                                    try clear c21
                                    try clear c24
                                    try clear c25
                                    try clear c26
                                    try clear c27
                                    try clear c28
                                    try clear c30
                                    try clear p30
                                    try clear q30
                                    try clear hx30
                                    try clear c32
                                    try clear c32b0
                                    try clear c33
                                    try clear c33b0
                                    try clear c34
                                    try clear c34b0
                                    try clear c35
                                    try clear c35b0
                                    try clear c36
                                    try clear c36b0
                                    try clear c36b1
                                    try clear c37
                                    try clear c37b0
                                    try clear c38
                                    try clear c38b0
                                    try clear c39
                                    try clear c39b0
                                    try clear c41
                                    try clear c41b0
                                    try clear c41b1
                                    try clear c42
                                    try clear c42b0
                                    try clear c42b1
                                    try clear c43
                                    try clear c43b0
                                    try clear c43b1
                                    try clear c44
                                    try clear c44b0
                                    try clear c44b1
                                    try clear c45
                                    try clear c45b0
                                    try clear c45b1
                                    try clear hx300_0
                                    try clear hx301_0
                                    try clear hx302_0
                                    try clear p2
                                    try clear p3
                                    try clear p30
                                    try clear p300
                                    try clear p301
                                    try clear p302
                                    try clear q3
                                    try clear q30
                                    try clear q300
                                    try clear q301
                                    try clear q302
                                    obtain ⟨kq, x111_39, rfl, HA, HJ39, HO_3, HO_4, HO_69, HO_83, HB⟩ := hcut
                                    cases kq with
                                    | zero => exact absurd HA.out (by simp [laws_FnCodes.j3])
                                    | succ kj39 =>
                                      have H := HA.out
                                      clear HA
                                      simp only [laws_FnCodes.j3] at H
                                      by_cases c46 : x111_39 = true
                                      · subst c46
                                        have H1 : (some false) = some r := by rw [if_pos rfl] at H; exact H
                                        clear H
                                        have H := H1
                                        clear H1
                                        obtain rfl := Option.some.inj H
                                        go_wp2
                                        go_ret
                                        exact ⟨by first | rfl | (simp [errW_none, errW_some] <;> rfl) | (simp [*, errW_none, errW_some] <;> rfl), by repeat (first | (with_reducible first | exact HB.out | apply below_alloc | apply pw_below_drewN | apply below_drew1) | exact HB.out)⟩
                                      · replace c46 := Bool.eq_false_iff.mpr c46
                                        subst c46
                                        have H1 : (if x71_2 < x85_3 then (if ((rdOf ByteArray.empty t287 x71_2).size : Int) = ((rdOf ByteArray.empty t287 x85_3).size : Int) then (if (rdOf ByteArray.empty t287 x71_2).toList = ([] : List UInt8) then (laws_FnCodes.l1 kj39 t284 t287 x71_2 (rdOf ByteArray.empty t287 x71_2) t287 (t287.length : Int) x71_2 t287 (t287.length : Int) (wrap64 (x85_3 + 1))) else (if ((Op.bytesLess (rdOf ByteArray.empty t287 x71_2).toList (rdOf ByteArray.empty t287 x85_3).toList) = true) then (laws_FnCodes.l1 kj39 t284 t287 x71_2 (rdOf ByteArray.empty t287 x71_2) t287 (t287.length : Int) x71_2 t287 (t287.length : Int) (wrap64 (x85_3 + 1))) else (some false))) else (laws_FnCodes.l1 kj39 t284 t287 x71_2 (rdOf ByteArray.empty t287 x71_2) t287 (t287.length : Int) x71_2 t287 (t287.length : Int) (wrap64 (x85_3 + 1)))) else (laws_FnCodes.l1 kj39 t284 t287 x71_2 (rdOf ByteArray.empty t287 x71_2) t287 (t287.length : Int) x71_2 t287 (t287.length : Int) (wrap64 (x85_3 + 1)))) = some r := by rw [if_neg (show ¬ (false = true) by decide)] at H; exact H
                                        clear H
                                        have H := H1
                                        clear H1
                                        by_cases c47 : x71_2 < x85_3
                                        · rw [if_pos c47] at H
                                          have c47b0 : decide (x71_2 < x85_3) = true := decide_eq_true c47
                                          clear c47
                                          by_cases c48 : ((rdOf ByteArray.empty t287 x71_2).size : Int) = ((rdOf ByteArray.empty t287 x85_3).size : Int)
                                          · rw [if_pos c48] at H
                                            have c48b0 : (((rdOf ByteArray.empty t287 x71_2).size : Int) == ((rdOf ByteArray.empty t287 x85_3).size : Int)) = true := beq_iff_eq.mpr c48
                                            have c48b1 : (((rdOf ByteArray.empty t287 x71_2).size : Int) != ((rdOf ByteArray.empty t287 x85_3).size : Int)) = false := bne_eq_false_iff_eq.mpr c48
                                            have c48b2 : ((rdOf ByteArray.empty t287 x71_2).size == (rdOf ByteArray.empty t287 x85_3).size) = true := by first | simpa using c48 | (simp at c48 ⊢; omega)
                                            clear c48
                                            by_cases c49 : (rdOf ByteArray.empty t287 x71_2).toList = ([] : List UInt8)
                                            · rw [if_pos c49] at H
                                              have c49b0 : ((rdOf ByteArray.empty t287 x71_2).toList == ([] : List UInt8)) = true := beq_iff_eq.mpr c49
                                              have c49b1 : ((rdOf ByteArray.empty t287 x71_2).toList != ([] : List UInt8)) = false := bne_eq_false_iff_eq.mpr c49
                                              clear c49
                                              have H' := Aside0.mk H
                                              clear H
                                              go_wp2
                                              go_roundg kj39
                                              case measure => have := HJ7.out; have := HK2.out; have := HK3.out; have := HJ39.out; omega
                                              case rel => exact ⟨(wrap64 (x85_3 + 1)), (by first | rfl | (simp; done) | (simp [*]; done)), H', ⟨by have := HJ7.out; have := HK2.out; have := HK3.out; have := HJ39.out; omega⟩, ⟨by (with_reducible repeat (first | apply Kd.R_alloc | apply Kd.R_drewN | apply Kd.R_drew)); exact HO_3.out⟩, ⟨by (with_reducible repeat (first | apply Kd.R_alloc | apply Kd.R_drewN | apply Kd.R_drew)); exact HO_4.out⟩, ⟨by (with_reducible repeat (first | apply Kd.R_alloc | apply Kd.R_drewN | apply Kd.R_drew)); exact HO_69.out⟩, ⟨by (with_reducible repeat (first | apply Kd.R_alloc | apply Kd.R_drewN | apply Kd.R_drew)); exact HO_83.out⟩, ⟨by repeat (first | (with_reducible first | exact HB.out | apply below_alloc | apply pw_below_drewN | apply below_drew1) | exact HB.out)⟩⟩
                                            · rw [if_neg c49] at H
                                              have c49b0 : ((rdOf ByteArray.empty t287 x71_2).toList == ([] : List UInt8)) = false := beq_eq_false_iff_ne.mpr c49
                                              have c49b1 : ((rdOf ByteArray.empty t287 x71_2).toList != ([] : List UInt8)) = true := bne_iff_ne.mpr c49
                                              by_cases c50 : ((Op.bytesLess (rdOf ByteArray.empty t287 x71_2).toList (rdOf ByteArray.empty t287 x85_3).toList) = true)
                                              · rw [if_pos c50] at H
                                                have c50b0 : (Op.bytesLess (rdOf ByteArray.empty t287 x71_2).toList (rdOf ByteArray.empty t287 x85_3).toList) = true := c50
                                                clear c50
                                                have H' := Aside0.mk H
                                                clear H
                                                go_wp2
                                                go_roundg kj39
                                                case measure => have := HJ7.out; have := HK2.out; have := HK3.out; have := HJ39.out; omega
                                                case rel => exact ⟨(wrap64 (x85_3 + 1)), (by first | rfl | (simp; done) | (simp [*]; done)), H', ⟨by have := HJ7.out; have := HK2.out; have := HK3.out; have := HJ39.out; omega⟩, ⟨by (with_reducible repeat (first | apply Kd.R_alloc | apply Kd.R_drewN | apply Kd.R_drew)); exact HO_3.out⟩, ⟨by (with_reducible repeat (first | apply Kd.R_alloc | apply Kd.R_drewN | apply Kd.R_drew)); exact HO_4.out⟩, ⟨by (with_reducible repeat (first | apply Kd.R_alloc | apply Kd.R_drewN | apply Kd.R_drew)); exact HO_69.out⟩, ⟨by (with_reducible repeat (first | apply Kd.R_alloc | apply Kd.R_drewN | apply Kd.R_drew)); exact HO_83.out⟩, ⟨by repeat (first | (with_reducible first | exact HB.out | apply below_alloc | apply pw_below_drewN | apply below_drew1) | exact HB.out)⟩⟩
                                              · rw [if_neg c50] at H
                                                have c50b0 : (Op.bytesLess (rdOf ByteArray.empty t287 x71_2).toList (rdOf ByteArray.empty t287 x85_3).toList) = false := by simpa using c50
                                                clear c50
                                                obtain rfl := Option.some.inj H
                                                go_wp2
                                                go_ret
                                                exact ⟨by first | rfl | (simp [errW_none, errW_some] <;> rfl) | (simp [*, errW_none, errW_some] <;> rfl), by repeat (first | (with_reducible first | exact HB.out | apply below_alloc | apply pw_below_drewN | apply below_drew1) | exact HB.out)⟩
                                          · rw [if_neg c48] at H
                                            have c48b0 : (((rdOf ByteArray.empty t287 x71_2).size : Int) == ((rdOf ByteArray.empty t287 x85_3).size : Int)) = false := beq_eq_false_iff_ne.mpr c48
                                            have c48b1 : (((rdOf ByteArray.empty t287 x71_2).size : Int) != ((rdOf ByteArray.empty t287 x85_3).size : Int)) = true := bne_iff_ne.mpr c48
                                            have c48b2 : ((rdOf ByteArray.empty t287 x71_2).size == (rdOf ByteArray.empty t287 x85_3).size) = false := by first | simpa using c48 | (simp at c48 ⊢; omega)
                                            have H' := Aside0.mk H
                                            clear H
                                            go_wp2
                                            go_roundg kj39
                                            case measure => have := HJ7.out; have := HK2.out; have := HK3.out; have := HJ39.out; omega
                                            case rel => exact ⟨(wrap64 (x85_3 + 1)), (by first | rfl | (simp; done) | (simp [*]; done)), H', ⟨by have := HJ7.out; have := HK2.out; have := HK3.out; have := HJ39.out; omega⟩, ⟨by (with_reducible repeat (first | apply Kd.R_alloc | apply Kd.R_drewN | apply Kd.R_drew)); exact HO_3.out⟩, ⟨by (with_reducible repeat (first | apply Kd.R_alloc | apply Kd.R_drewN | apply Kd.R_drew)); exact HO_4.out⟩, ⟨by (with_reducible repeat (first | apply Kd.R_alloc | apply Kd.R_drewN | apply Kd.R_drew)); exact HO_69.out⟩, ⟨by (with_reducible repeat (first | apply Kd.R_alloc | apply Kd.R_drewN | apply Kd.R_drew)); exact HO_83.out⟩, ⟨by repeat (first | (with_reducible first | exact HB.out | apply below_alloc | apply pw_below_drewN | apply below_drew1) | exact HB.out)⟩⟩
                                        · rw [if_neg c47] at H
                                          have c47b0 : decide (x71_2 < x85_3) = false := decide_eq_false c47
                                          clear c47
                                          have H' := Aside0.mk H
                                          clear H
                                          go_wp2
                                          go_roundg kj39
                                          case measure => have := HJ7.out; have := HK2.out; have := HK3.out; have := HJ39.out; omega
                                          case rel => exact ⟨(wrap64 (x85_3 + 1)), (by first | rfl | (simp; done) | (simp [*]; done)), H', ⟨by have := HJ7.out; have := HK2.out; have := HK3.out; have := HJ39.out; omega⟩, ⟨by (with_reducible repeat (first | apply Kd.R_alloc | apply Kd.R_drewN | apply Kd.R_drew)); exact HO_3.out⟩, ⟨by (with_reducible repeat (first | apply Kd.R_alloc | apply Kd.R_drewN | apply Kd.R_drew)); exact HO_4.out⟩, ⟨by (with_reducible repeat (first | apply Kd.R_alloc | apply Kd.R_drewN | apply Kd.R_drew)); exact HO_69.out⟩, ⟨by (with_reducible repeat (first | apply Kd.R_alloc | apply Kd.R_drewN | apply Kd.R_drew)); exact HO_83.out⟩, ⟨by repeat (first | (with_reducible first | exact HB.out | apply below_alloc | apply pw_below_drewN | apply below_drew1) | exact HB.out)⟩⟩
                                · rw [if_neg c39] at H
                                  exact absurd H (by simp)
                              · rw [if_neg c38] at H
                                exact absurd H (by simp)
                            · rw [if_neg c37] at H
                              have c37b0 : decide (x85_3 < (t287.length : Int)) = false := decide_eq_false c37
                              clear c37
                              have H' := Aside0.mk H
                              clear H
                              go_wp2
                              go_roundg k3
                              case measure => have := HJ7.out; have := HK2.out; have := HK3.out; omega
                              case rel => exact ⟨(wrap64 (x71_2 + 1)), (by first | rfl | (simp; done) | (simp [*]; done)), H', ⟨by have := HJ7.out; have := HK2.out; have := HK3.out; omega⟩, ⟨by (with_reducible repeat (first | apply Kd.R_alloc | apply Kd.R_drewN | apply Kd.R_drew)); exact HO_3.out⟩, ⟨by (with_reducible repeat (first | apply Kd.R_alloc | apply Kd.R_drewN | apply Kd.R_drew)); exact HO_4.out⟩, ⟨by (with_reducible repeat (first | apply Kd.R_alloc | apply Kd.R_drewN | apply Kd.R_drew)); exact HO_69.out⟩, ⟨by repeat (first | (with_reducible first | exact HB.out | apply below_alloc | apply pw_below_drewN | apply below_drew1) | exact HB.out)⟩⟩
                      · rw [if_neg c36] at H
                        have c36b0 : (((rdOf ByteArray.empty t287 x71_2).size : Int) == (rd t284 x71_2)) = false := beq_eq_false_iff_ne.mpr c36
                        have c36b1 : (((rdOf ByteArray.empty t287 x71_2).size : Int) != (rd t284 x71_2)) = true := bne_iff_ne.mpr c36
                        obtain rfl := Option.some.inj H
                        have p300 : 0 ≤ (x71_2 : Int) := of_decide_eq_true (by first | (with_reducible assumption) | assumption)
                        have q300 : x71_2 < (t287.length : Int) := of_decide_eq_true (by first | (with_reducible assumption) | assumption)
                        obtain ⟨ad300, e300, hx300_0⟩ := Kd.at_string (Kd.R_reads' HO_69.out).2.2 x71_2 p300 q300
                        cases e300
                        replace p300 := eq_true p300
                        replace q300 := eq_true q300
                        have p301 : 0 ≤ (x71_2 : Int) := of_decide_eq_true (by first | (with_reducible assumption) | assumption)
                        have q301 : x71_2 < (t284.length : Int) := of_decide_eq_true (by first | (with_reducible assumption) | assumption)
                        obtain ⟨ad301, e301, hx301_0⟩ := Kd.at_int (Kd.R_reads' HO_3.out).2.2 x71_2 p301 q301
                        cases e301
                        replace p301 := eq_true p301
                        replace q301 := eq_true q301
                        go_wp2
                        go_ret
                        exact ⟨by first | rfl | (simp [errW_none, errW_some] <;> rfl) | (simp [*, errW_none, errW_some] <;> rfl), by repeat (first | (with_reducible first | exact HB.out | apply below_alloc | apply pw_below_drewN | apply below_drew1) | exact HB.out)⟩
                    · rw [if_neg c35] at H
                      exact absurd H (by simp)
                  · rw [if_neg c34] at H
                    exact absurd H (by simp)
                · rw [if_neg c33] at H
                  exact absurd H (by simp)
              · rw [if_neg c32] at H
                have c32b0 : decide (x71_2 < (t287.length : Int)) = false := decide_eq_false c32
                clear c32
                obtain rfl := Option.some.inj H
                go_wp2
                go_ret
                exact ⟨by first | rfl | (simp [errW_none, errW_some] <;> rfl) | (simp [*, errW_none, errW_some] <;> rfl), by repeat (first | (with_reducible first | exact HB.out | apply below_alloc | apply pw_below_drewN | apply below_drew1) | exact HB.out)⟩

/-- THE ONE PURE STATEMENT of laws_FnCodes: yours. -/
def laws_FnCodes.Pure : Prop := ∀ (l0 : List Int), l0.length ≤ maxLen → l0.length * 1 ≤ 140737488351232 → (∀ x ∈ l0, (Lit.int .u8 x).wf = true) → ∃ k, laws_FnCodes.f k l0 = some true
theorem laws_FnCodes.walk (P : laws_FnCodes.Pure) (a0 : Option Addr) (len0 cap0 : Nat) (z0 : List Int) (w : World) (w0 : (a0 = none ∧ len0 = 0 ∧ cap0 = 0 ∧ z0 = []) ∨ ∃ x, a0 = some x ∧ len0 ≤ cap0 ∧ cap0 ≤ maxLen ∧ z0.length = cap0 ∧ (∀ i, i < z0.length → w.cell? (x.add i) = some (.int .u8 (z0.getD i 0))) ∧ ∀ n ∈ z0, (Lit.int .u8 n).wf = true) (y0 : len0 * 1 ≤ 140737488351232) :
    Calls Try.prog 5 #[.slice a0 len0 cap0] w fun e w' => e = .returned (.bool true) ∧ Below w.heap.size w w' := by
  obtain ⟨l0, rfl, hr0, hm0, hw0, hc0⟩ := ReadsInt.ofRowC w0
  obtain ⟨k, h⟩ := P l0 hm0 y0 hw0
  refine (laws_FnCodes.calls k _ _ l0 true w (Kd.C_of_reads (d := (0 : Int)) (h1 := fun _ => rfl) hr0) hc0 h).mono ?_
  rintro e w' ⟨rfl, hd⟩
  exact ⟨rfl, hd⟩

end Go.Proofs.Ytobbhgghpjecjaa.PFnCodes
