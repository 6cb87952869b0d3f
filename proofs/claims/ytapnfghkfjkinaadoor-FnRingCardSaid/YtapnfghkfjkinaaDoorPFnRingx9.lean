-- written by a program of this session (wip/tool)
import Derived.Test.YtapnfghkfjkinaaDoorPFnRingx0
import Derived.Test.YtapnfghkfjkinaaDoorPFnRingx1
import Derived.Test.YtapnfghkfjkinaaDoorPFnRingx2
import Derived.Test.YtapnfghkfjkinaaDoorPFnRingx4
import Derived.Test.YtapnfghkfjkinaaDoorPFnRingx6
import Derived.Test.YtapnfghkfjkinaaDoorPFnRingx7
import Derived.Test.YtapnfghkfjkinaaDoorPFnRingx8
import Derived.Test.YtapnfghkfjkinaaDoorOwn0
import Derived.Test.YtapnfghkfjkinaaDoorOwnOpen
import Derived.Test.YtapnfghkfjkinaaDoorOwnRg
import Derived.WalkKit
import Derived.BigCall
import Derived.Deep.QuietTactic
namespace Go.Proofs.YtapnfghkfjkinaaDoor.PFnRing
open Go.RowKit Go.Proofs.YtapnfghkfjkinaaDoorW.PrintWords Go.Proofs.YtapnfghkfjkinaaDoorW.PrintLast Go.Proofs.YtapnfghkfjkinaaDoorW.PrintMore Go.Shelf Go.Proofs.YtapnfghkfjkinaaDoorOwn
attribute [local go_sem] max2_int min2_int max_two min_two max_three min_three max_four min_four   -- for this text's walks alone
set_option linter.unusedVariables false
set_option linter.unusedSimpArgs false

attribute [local go_sem high] eqA31
/-! ### laws_FnRing: function 3 -/
def laws_FnRing.l0 : Nat → List Int → List Int → Int → List (S31) → Bool → List (S31) → Int → Int → Option (Bool)
  | 0, _, _, _, _, _, _, _, _ => none
  | k + 1, x1, x5, x6, x7, x8, x9, x58, x59 => if x59 < x58 then (if 0 ≤ x59 then (if x59 < (x7.length : Int) then (if x59 < (x9.length : Int) then (if (!(((rd_T31 x7 x59).f0) == ((rd_T31 x9 x59).f0)) || (!(((rd_T31 x7 x59).f1) == ((rd_T31 x9 x59).f1)))) = true then (none) else (laws_FnRing.l0 k x1 x5 x6 x7 x8 x9 x58 (wrap64 (x59 + 1)))) else (none)) else (none)) else (none)) else (if x8 = true then (if (x5.length : Int) < 2 then (some ((x7.length : Int) == (wrap64 ((x5.length : Int) * x6)))) else ((laws_numberOf.f k x1).bind fun t299 => (if (x5.length : Int) = 0 then (none) else ((some (([] : List Int) : List Int)).bind fun y300 => (if 0 ≤ (Int.tmod t299 (x5.length : Int)) then (if (Int.tmod t299 (x5.length : Int)) ≤ (x5.length : Int) then ((some (x5.take ((Int.tmod t299 (x5.length : Int)) : Int).toNat : List Int)).bind fun y303 => (if y300.length + y303.length < 17592186044416 then ((some (y300 ++ y303 : List Int)).bind fun y307 => (if 0 ≤ (wrap64 ((Int.tmod t299 (x5.length : Int)) + 1)) then (if (wrap64 ((Int.tmod t299 (x5.length : Int)) + 1)) ≤ (x5.length : Int) then ((some (x5.drop ((wrap64 ((Int.tmod t299 (x5.length : Int)) + 1)) : Int).toNat : List Int)).bind fun y310 => (if y307.length + y310.length < 17592186044416 then ((impl_RingOf.f k (y307 ++ y310) x6).bind fun bt317 => ((spec_DrawRingServer.f k x1).bind fun bt321 => ((impl_RingServer.f x7 bt321.2).bind fun bt325 => ((impl_RingServer.f bt317.1 bt321.2).bind fun bt327 => ((spec_RingServer.f k x7 bt321.2).bind fun bt329 => (if bt317.2 = true then (if bt325.2 = true then (if bt327.2 = true then (if bt329.2 = true then (if bt325.1 = bt329.1 then (if (Int.tmod t299 (x5.length : Int)) < (x5.length : Int) then (if bt325.1 = (rd x5 (Int.tmod t299 (x5.length : Int))) then (some (bt327.1 != (rd x5 (Int.tmod t299 (x5.length : Int))))) else (if bt327.1 = bt325.1 then (some (bt327.1 != (rd x5 (Int.tmod t299 (x5.length : Int))))) else (none))) else (none)) else (none)) else (none)) else (none)) else (none)) else (none))))))) else (none))) else (none)) else (none))) else (none))) else (none)) else (none)))))) else (some ((x7.length : Int) == 0)))
def laws_FnRing.f (k : Nat) (l0 : List Int) (l1 : List Int) : Option (Bool) := if (wrap64 ((l0.length : Int) + (l1.length : Int))) > 1048576 then (some true) else ((spec_DrawRingOf.f k l0).bind fun bt285 => ((impl_RingOf.f k bt285.1 bt285.2).bind fun bt289 => ((spec_RingOf.f k bt285.1 bt285.2).bind fun bt293 => (if (bt289.2 != bt293.2) = true then (none) else (if (bt289.1.length : Int) = (bt293.1.length : Int) then (laws_FnRing.l0 k l1 bt285.1 bt285.2 bt289.1 bt289.2 bt293.1 (bt289.1.length : Int) 0) else (none))))))
theorem laws_FnRing.mono_l : ∀ k, (∀ y0 y1 y2 y3 y4 y5 y6 y7, LeO (laws_FnRing.l0 k y0 y1 y2 y3 y4 y5 y6 y7) (laws_FnRing.l0 (k + 1) y0 y1 y2 y3 y4 y5 y6 y7))
  | 0 => fun _ _ _ _ _ _ _ _ r h => by simp [laws_FnRing.l0] at h
  | k + 1 => by
    have ih0 := laws_FnRing.mono_l k
    · intro y0 y1 y2 y3 y4 y5 y6 y7
      unfold laws_FnRing.l0
      repeat' first
      | (with_reducible exact ih0 _ _ _ _ _ _ _ _)
      | (with_reducible exact impl_RingOf.mono _ _ _)
      | (with_reducible exact laws_numberOf.mono _ _)
      | (with_reducible exact spec_DrawRingOf.mono _ _)
      | (with_reducible exact spec_DrawRingServer.mono _ _)
      | (with_reducible exact spec_RingOf.mono _ _ _)
      | (with_reducible exact spec_RingServer.mono _ _ _)
      | (with_reducible exact LeO.refl _)
      | (with_reducible exact LeO.none _)
      | (with_reducible refine LeO.ite ?_ ?_)
      | (with_reducible refine LeO.bind ?_ (fun _ => ?_))
      | exact ih0 _ _ _ _ _ _ _ _
      | exact impl_RingOf.mono _ _ _
      | exact laws_numberOf.mono _ _
      | exact spec_DrawRingOf.mono _ _
      | exact spec_DrawRingServer.mono _ _
      | exact spec_RingOf.mono _ _ _
      | exact spec_RingServer.mono _ _ _
      | exact LeO.none _
      | refine LeO.ite ?_ ?_
      | refine LeO.bind ?_ (fun _ => ?_)
theorem laws_FnRing.mono : ∀ a0 a1 k, LeO (laws_FnRing.f k a0 a1) (laws_FnRing.f (k + 1) a0 a1) := by
  intro a0 a1 k
  have ih0 := laws_FnRing.mono_l k
  unfold laws_FnRing.f
  repeat' first
      | (with_reducible exact ih0 _ _ _ _ _ _ _ _)
      | (with_reducible exact impl_RingOf.mono _ _ _)
      | (with_reducible exact laws_numberOf.mono _ _)
      | (with_reducible exact spec_DrawRingOf.mono _ _)
      | (with_reducible exact spec_DrawRingServer.mono _ _)
      | (with_reducible exact spec_RingOf.mono _ _ _)
      | (with_reducible exact spec_RingServer.mono _ _ _)
      | (with_reducible exact LeO.refl _)
      | (with_reducible exact LeO.none _)
      | (with_reducible refine LeO.ite ?_ ?_)
      | (with_reducible refine LeO.bind ?_ (fun _ => ?_))
      | exact ih0 _ _ _ _ _ _ _ _
      | exact impl_RingOf.mono _ _ _
      | exact laws_numberOf.mono _ _
      | exact spec_DrawRingOf.mono _ _
      | exact spec_DrawRingServer.mono _ _
      | exact spec_RingOf.mono _ _ _
      | exact spec_RingServer.mono _ _ _
      | exact LeO.none _
      | refine LeO.ite ?_ ?_
      | refine LeO.bind ?_ (fun _ => ?_)
def laws_FnRing.T11 : Bool × List (List Nat × List Nat) := (true, [([], []), ([], []), ([0, 1], [0, 1]), ([2], [2]), ([], []), ([], []), ([4, 5], [4, 5]), ([6], [6]), ([3, 7], [3, 7])])
def laws_FnRing.B11 : List Nat := [0, 0, 3, 7, 0, 0, 48, 112, 255]
theorem laws_FnRing.tab11 : rtab .any (opsOf Tryd.f3 11) = laws_FnRing.T11 := by kernel_rfl
theorem laws_FnRing.bits11 : waitsOk laws_FnRing.T11.2 laws_FnRing.B11 = true := by kernel_rfl
def laws_FnRing.T19 : Bool × List (List Nat × List Nat) := (true, [([], []), ([], []), ([], []), ([1, 2], [1, 2]), ([0, 3], [0, 3]), ([], []), ([], []), ([6], [6]), ([5, 7], [5, 7]), ([4, 8, 4], [4, 8]), ([9, 9, 0, 1, 2, 3, 4, 5, 6, 7, 8, 9], [9])])
def laws_FnRing.B19 : List Nat := [0, 0, 0, 6, 15, 0, 0, 64, 224, 511, 1023]
theorem laws_FnRing.tab19 : rtab .any (opsOf Tryd.f3 19) = laws_FnRing.T19 := by kernel_rfl
theorem laws_FnRing.bits19 : waitsOk laws_FnRing.T19.2 laws_FnRing.B19 = true := by kernel_rfl
set_option maxHeartbeats 8000000 in
set_option maxRecDepth 100000 in
theorem laws_FnRing.calls (k : Nat) (A0 : Option Addr) (c0 : Nat) (l0 : List Int) (A1 : Option Addr) (c1 : Nat) (l1 : List Int) (r : Bool) (w : World) (hr0 : Kd.C (Kd.int .u8) w A0 l0.length l0) (hc0 : l0.length ≤ c0) (hr1 : Kd.C (Kd.int .u8) w A1 l1.length l1) (hc1 : l1.length ≤ c1) (h : laws_FnRing.f k l0 l1 = some r) :
    Calls Tryd.prog 3 #[.slice A0 l0.length c0, .slice A1 l1.length c1] w fun e w' => e = .returned (.bool r) ∧ Below w.heap.size w w' := by
  have hu31 := Tryd.underlying31
  have HR0 := Aside0.mk hr0
  have HC0 := Aside0.mk hc0
  clear hr0 hc0
  have HR1 := Aside0.mk hr1
  have HC1 := Aside0.mk hc1
  clear hr1 hc1
  have HB := Aside0.mk (Below.refl w.heap.size w)
  have H : (if (wrap64 ((l0.length : Int) + (l1.length : Int))) > 1048576 then (some true) else ((spec_DrawRingOf.f k l0).bind fun bt285 => ((impl_RingOf.f k bt285.1 bt285.2).bind fun bt289 => ((spec_RingOf.f k bt285.1 bt285.2).bind fun bt293 => (if (bt289.2 != bt293.2) = true then (none) else (if (bt289.1.length : Int) = (bt293.1.length : Int) then (laws_FnRing.l0 k l1 bt285.1 bt285.2 bt289.1 bt289.2 bt293.1 (bt289.1.length : Int) 0) else (none))))))) = some r := h
  clear h
  by_cases c3 : (wrap64 ((l0.length : Int) + (l1.length : Int))) > 1048576
  · rw [if_pos c3] at H
    have c3b0 : decide (1048576 < (wrap64 ((l0.length : Int) + (l1.length : Int)))) = true := decide_eq_true c3
    clear c3
    obtain rfl := Option.some.inj H
    go_enter Tryd.func3, Tryd.ntmps3
    go_wp2
    go_ret
    exact ⟨by first | rfl | (simp [errW_none, errW_some] <;> rfl) | (simp [*, errW_none, errW_some] <;> rfl), by repeat (first | (with_reducible first | exact HB.out | apply below_alloc | apply pw_below_drewN | apply below_drew1) | exact HB.out)⟩
  · rw [if_neg c3] at H
    have c3b0 : decide (1048576 < (wrap64 ((l0.length : Int) + (l1.length : Int)))) = false := decide_eq_false c3
    clear c3
    replace H := Option.bind_eq_some_iff.mp H
    obtain ⟨⟨t285, t286⟩, A40, H⟩ := H
    replace H : ((impl_RingOf.f k t285 t286).bind fun bt289 => ((spec_RingOf.f k t285 t286).bind fun bt293 => (if (bt289.2 != bt293.2) = true then (none) else (if (bt289.1.length : Int) = (bt293.1.length : Int) then (laws_FnRing.l0 k l1 t285 t286 bt289.1 bt289.2 bt293.1 (bt289.1.length : Int) 0) else (none))))) = some r := H
    have A4 := Aside0.mk A40
    clear A40
    replace H := Option.bind_eq_some_iff.mp H
    obtain ⟨⟨t289, t290⟩, A50, H⟩ := H
    replace H : ((spec_RingOf.f k t285 t286).bind fun bt293 => (if (t290 != bt293.2) = true then (none) else (if (t289.length : Int) = (bt293.1.length : Int) then (laws_FnRing.l0 k l1 t285 t286 t289 t290 bt293.1 (t289.length : Int) 0) else (none)))) = some r := H
    have A5 := Aside0.mk A50
    clear A50
    replace H := Option.bind_eq_some_iff.mp H
    obtain ⟨⟨t293, t294⟩, A60, H⟩ := H
    replace H : (if (t290 != t294) = true then (none) else (if (t289.length : Int) = (t293.length : Int) then (laws_FnRing.l0 k l1 t285 t286 t289 t290 t293 (t289.length : Int) 0) else (none))) = some r := H
    have A6 := Aside0.mk A60
    clear A60
    by_cases c7 : (t290 != t294) = true
    · rw [if_pos c7] at H
      exact absurd H (by simp)
    · rw [if_neg c7] at H
      have c7b0 : (t290 != t294) = false := by simpa using c7
      (try (have c7b1 : decide (t290 = t294) = true := by simpa using c7))
      (try (have c7b2 : (t290 == t294) = true := by simpa using c7))
      clear c7
      by_cases c8 : (t289.length : Int) = (t293.length : Int)
      · rw [if_pos c8] at H
        have c8b0 : ((t289.length : Int) == (t293.length : Int)) = true := beq_iff_eq.mpr c8
        have c8b1 : ((t289.length : Int) != (t293.length : Int)) = false := bne_eq_false_iff_eq.mpr c8
        have c8b2 : (t289.length == t293.length) = true := by first | simpa using c8 | (simp at c8 ⊢; omega)
        clear c8
        have H' := Aside0.mk H
        clear H
        go_enter Tryd.func3, Tryd.ntmps3
        go_wp2_with (first | ((with_reducible refine gate_callee (f := 4) rfl ?_); refine goesL_ (some 32) rfl rfl Tryd.func4 (by kernel_rfl) rfl #[.slice A0 l0.length c0] rfl (by (try simp only [List.map_toArray, List.map_cons, List.map_nil]); first | done | rfl | (simp only [List.length_drop, List.length_take]; rfl)) ?_; (with_reducible refine (spec_DrawRingOf.calls k _ _ l0 t285 t286 _ ?side1 ?side2 A4.out).mono ?_); (case side1 => repeat (first | exact HR0.out | (with_reducible refine Kd.C_alloc ?_ _) | (with_reducible refine Kd.C_drewN ?_ _) | (with_reducible refine Kd.C_drew ?_))); (case side2 => exact HC0.out); rintro e w9 ⟨v287, rfl, ho0, hb⟩; refine ⟨_, rfl, ?_⟩; have n0_ := Aside0.mk (Kd.R_lower ho0 (below_size (by repeat (first | (with_reducible first | exact HB.out | apply below_alloc | apply pw_below_drewN | apply below_drew1) | exact HB.out)))); have n1_ := Aside0.mk (below_step (by repeat (first | (with_reducible first | exact HB.out | apply below_alloc | apply pw_below_drewN | apply below_drew1) | exact HB.out)) hb); clear HB; have HO288 := n0_; have HB := n1_; clear n0_ n1_; (try clear hb); (try clear hb2); (try clear hk); (try clear hi); (try clear ho0); obtain ⟨Ao10, co10, eo10⟩ := Kd.R_slice HO288.out; subst eo10) | ((with_reducible refine gate_callee (f := 5) rfl ?_); refine goesL_ (some 38) rfl rfl Tryd.func5 (by kernel_rfl) rfl #[.slice Ao10 t285.length co10, .int .i64 t286] rfl (by (try simp only [List.map_toArray, List.map_cons, List.map_nil]); first | done | rfl | (simp only [List.length_drop, List.length_take]; rfl)) ?_; (with_reducible refine (impl_RingOf.calls k _ _ t285 t286 t289 t290 _ ?side1 ?side2 A5.out).mono ?_); (case side1 => repeat (first | exact (Kd.R_reads' HO288.out).2.2 | (with_reducible refine Kd.C_alloc ?_ _) | (with_reducible refine Kd.C_drewN ?_ _) | (with_reducible refine Kd.C_drew ?_))); (case side2 => exact (Kd.R_reads' HO288.out).2.1); rintro e w11 ⟨v291, rfl, ho0, hb⟩; refine ⟨_, rfl, ?_⟩; have n0_ := Aside0.mk (Kd.R_below (by (with_reducible repeat (first | apply Kd.R_alloc | apply Kd.R_drewN | apply Kd.R_drew)); exact HO288.out) hb); have n1_ := Aside0.mk (Kd.R_lower ho0 (below_size (by repeat (first | (with_reducible first | exact HB.out | apply below_alloc | apply pw_below_drewN | apply below_drew1) | exact HB.out)))); have n2_ := Aside0.mk (below_step (by repeat (first | (with_reducible first | exact HB.out | apply below_alloc | apply pw_below_drewN | apply below_drew1) | exact HB.out)) hb); clear HO288; clear HB; have HO288 := n0_; have HO292 := n1_; have HB := n2_; clear n0_ n1_ n2_; (try clear hb); (try clear hb2); (try clear hk); (try clear hi); (try clear ho0)) | ((with_reducible refine gate_callee (f := 6) rfl ?_); refine goesL_ (some 44) rfl rfl Tryd.func6 (by kernel_rfl) rfl #[.slice Ao10 t285.length co10, .int .i64 t286] rfl (by (try simp only [List.map_toArray, List.map_cons, List.map_nil]); first | done | rfl | (simp only [List.length_drop, List.length_take]; rfl)) ?_; (with_reducible refine (spec_RingOf.calls k _ _ t285 t286 t293 t294 _ ?side1 ?side2 A6.out).mono ?_); (case side1 => repeat (first | exact (Kd.R_reads' HO288.out).2.2 | (with_reducible refine Kd.C_alloc ?_ _) | (with_reducible refine Kd.C_drewN ?_ _) | (with_reducible refine Kd.C_drew ?_))); (case side2 => exact (Kd.R_reads' HO288.out).2.1); rintro e w12 ⟨v295, rfl, ho0, hb⟩; refine ⟨_, rfl, ?_⟩; have n0_ := Aside0.mk (Kd.R_below (by (with_reducible repeat (first | apply Kd.R_alloc | apply Kd.R_drewN | apply Kd.R_drew)); exact HO288.out) hb); have n1_ := Aside0.mk (Kd.R_elder' (by (with_reducible repeat (first | apply Kd.R_alloc | apply Kd.R_drewN | apply Kd.R_drew)); exact HO292.out) (Kd.R_base ho0) hb); have n2_ := Aside0.mk (Kd.R_lower (Kd.R_new' ho0 (Kd.R_lt (by (with_reducible repeat (first | apply Kd.R_alloc | apply Kd.R_drewN | apply Kd.R_drew)); exact HO292.out))) (below_size (by repeat (first | (with_reducible first | exact HB.out | apply below_alloc | apply pw_below_drewN | apply below_drew1) | exact HB.out)))); have n3_ := Aside0.mk (below_step (by repeat (first | (with_reducible first | exact HB.out | apply below_alloc | apply pw_below_drewN | apply below_drew1) | exact HB.out)) hb); clear HO288; clear HO292; clear HB; have HO288 := n0_; have HO292 := n1_; have HO296 := n2_; have HB := n3_; clear n0_ n1_ n2_ n3_; (try clear hb); (try clear hb2); (try clear hk); (try clear hi); (try clear ho0); obtain ⟨Ao13, co13, eo13⟩ := Kd.R_slice HO292.out; subst eo13; obtain ⟨Ao14, co14, eo14⟩ := Kd.R_slice HO296.out; subst eo14))
        go_loopg [59] k (fun kq v59 w' => ∃ (x59_1 : Int), v59 = .int .i64 x59_1 ∧ Aside0 (laws_FnRing.l0 kq l1 t285 t286 t289 t290 t293 (t289.length : Int) x59_1 = some r) ∧ Aside0 (kq ≤ k) ∧ Aside0 (Kd.R (Kd.int .i64) 3 w' w.heap.size (fun _ => True) (.slice Ao10 t285.length co10) t285) ∧ Aside0 (Kd.R k31 31 w' w.heap.size (fun k_ => some k_ ≠ ((.slice Ao14 t293.length co14) : Value).ownBlock) (.slice Ao13 t289.length co13) t289) ∧ Aside0 (Kd.R k31 31 w' w.heap.size (fun k_ => some k_ ≠ ((.slice Ao13 t289.length co13) : Value).ownBlock) (.slice Ao14 t293.length co14) t293) ∧ Aside0 (Below w.heap.size w w'))
        case atStart => exact ⟨(0), (by first | rfl | (simp; done) | (simp [*]; done)), H', ⟨Nat.le_refl _⟩, ⟨by (with_reducible repeat (first | apply Kd.R_alloc | apply Kd.R_drewN | apply Kd.R_drew)); exact HO288.out⟩, ⟨by (with_reducible repeat (first | apply Kd.R_alloc | apply Kd.R_drewN | apply Kd.R_drew)); exact Kd.R_mono HO292.out (fun _ hk => hk.2)⟩, ⟨by (with_reducible repeat (first | apply Kd.R_alloc | apply Kd.R_drewN | apply Kd.R_drew)); exact Kd.R_mono HO296.out (fun _ hk => hk.2)⟩, ⟨by repeat (first | (with_reducible first | exact HB.out | apply below_alloc | apply pw_below_drewN | apply below_drew1) | exact HB.out)⟩⟩
        case round =>
          clear H'
          try clear c1
          try clear p2
          try clear c3
          try clear c3b0
          try clear c4
          try clear c5
          try clear c6
          try clear p6
          try clear c7
          try clear c7b0
          try clear c7b1
          try clear c7b2
          try clear c8
          try clear c8b0
          try clear c8b1
          try clear c8b2
          obtain ⟨x59_1, rfl, HA, HK1, HO_5, HO_7, HO_9, HB⟩ := hrel
          cases gk with
          | zero => exact absurd HA.out (by simp [laws_FnRing.l0])
          | succ k1 =>
            have H := HA.out
            clear HA
            simp only [laws_FnRing.l0] at H
            by_cases c15 : x59_1 < (t289.length : Int)
            · rw [if_pos c15] at H
              have c15b0 : decide (x59_1 < (t289.length : Int)) = true := decide_eq_true c15
              clear c15
              by_cases c16 : 0 ≤ x59_1
              · rw [if_pos c16] at H
                have c16b0 : decide (0 ≤ x59_1) = true := decide_eq_true c16
                clear c16
                by_cases c17 : x59_1 < (t289.length : Int)
                · rw [if_pos c17] at H
                  have c17b0 : decide (x59_1 < (t289.length : Int)) = true := decide_eq_true c17
                  clear c17
                  by_cases c18 : x59_1 < (t293.length : Int)
                  · rw [if_pos c18] at H
                    have c18b0 : decide (x59_1 < (t293.length : Int)) = true := decide_eq_true c18
                    clear c18
                    by_cases c19 : (!(((rd_T31 t289 x59_1).f0) == ((rd_T31 t293 x59_1).f0)) || (!(((rd_T31 t289 x59_1).f1) == ((rd_T31 t293 x59_1).f1)))) = true
                    · rw [if_pos c19] at H
                      exact absurd H (by simp)
                    · rw [if_neg c19] at H
                      have c19b0 : (!(((rd_T31 t289 x59_1).f0) == ((rd_T31 t293 x59_1).f0)) || (!(((rd_T31 t289 x59_1).f1) == ((rd_T31 t293 x59_1).f1)))) = false := by simpa using c19
                      clear c19
                      have H' := Aside0.mk H
                      clear H
                      try go_wp2
                      have n0_ := Aside0.mk (Kd.R_drew HO_5.out)
                      have n1_ := Aside0.mk (Kd.R_drew HO_7.out)
                      have n2_ := Aside0.mk (Kd.R_drew HO_9.out)
                      have n3_ := Aside0.mk (below_drew1 HB.out)
                      clear HO_5
                      clear HO_7
                      clear HO_9
                      clear HB
                      have HO_5 := n0_
                      have HO_7 := n1_
                      have HO_9 := n2_
                      have HB := n3_
                      clear n0_ n1_ n2_ n3_
                      have p297 : 0 ≤ (x59_1 : Int) := of_decide_eq_true (by first | (with_reducible assumption) | assumption)
                      have q297 : x59_1 < (t289.length : Int) := of_decide_eq_true (by first | (with_reducible assumption) | assumption)
                      obtain ⟨ad297, e297, hx297_0, hx297_1⟩ := at_T31 (Kd.R_reads' HO_7.out).2.2 x59_1 p297 q297
                      cases e297
                      replace p297 := eq_true p297
                      replace q297 := eq_true q297
                      have p298 : 0 ≤ (x59_1 : Int) := of_decide_eq_true (by first | (with_reducible assumption) | assumption)
                      have q298 : x59_1 < (t293.length : Int) := of_decide_eq_true (by first | (with_reducible assumption) | assumption)
                      obtain ⟨ad298, e298, hx298_0, hx298_1⟩ := at_T31 (Kd.R_reads' HO_9.out).2.2 x59_1 p298 q298
                      cases e298
                      replace p298 := eq_true p298
                      replace q298 := eq_true q298
                      refine start_ (n := 9) (S := fun w' => w'.cell? (ad297.add ((x59_1).toNat * 2)) = some (.int .u32 ((rd_T31 t289 x59_1).f0)) ∧ w'.cell? ⟨(ad297.add ((x59_1).toNat * 2)).block, (ad297.add ((x59_1).toNat * 2)).off + 1, none⟩ = some (.int .i64 ((rd_T31 t289 x59_1).f1)) ∧ w'.cell? (ad298.add ((x59_1).toNat * 2)) = some (.int .u32 ((rd_T31 t293 x59_1).f0)) ∧ w'.cell? ⟨(ad298.add ((x59_1).toNat * 2)).block, (ad298.add ((x59_1).toNat * 2)).off + 1, none⟩ = some (.int .i64 ((rd_T31 t293 x59_1).f1))) (ds := []) #[false, false, false, false, false, false, false, false, false] (by kernel_rfl) rfl rfl ⟨hx297_0, hx297_1, hx298_0, hx298_1⟩ (fun hHeld => ?_); refine with_tabW laws_FnRing.tab11 laws_FnRing.bits11 (fun HT_ HW_ => ?_)
                      generalize wr.drew = w20 at HO_5 HO_7 HO_9 HB hx297_0 hx297_1 hx298_0 hx298_1 hHeld ⊢
                      refine pure_ (i := 0) (N := some 62) (v := ?_) (a' := ?_) #[true, false, false, false, false, false, false, false, false] rfl rfl (any_of HT_.out (by kernel_rfl)) (fun _ _ _ h => h) (Or.inl ⟨by rfl, ?_⟩) ?_ ?_
                      rotate_left
                      · intro w'
                        go_simp
                        with_reducible rfl
                      rotate_left
                      · simp only [Act.put, List.setIfInBounds_toArray, List.set_cons_zero, List.set_cons_succ, i64_w, i32_w]
                        rfl
                      refine pure_ (i := 1) (N := some 63) (v := ?_) (a' := ?_) #[true, true, false, false, false, false, false, false, false] rfl rfl (any_of HT_.out (by kernel_rfl)) (fun _ _ _ h => h) (Or.inl ⟨by rfl, ?_⟩) ?_ ?_
                      rotate_left
                      · intro w'
                        go_simp
                        with_reducible rfl
                      rotate_left
                      · simp only [Act.put, List.setIfInBounds_toArray, List.set_cons_zero, List.set_cons_succ, i64_w, i32_w]
                        rfl
                      refine pure_ (i := 2) (N := some 64) (v := ?_) (a' := ?_) #[true, true, true, false, false, false, false, false, false] rfl rfl (any_of HT_.out (by kernel_rfl)) (fun _ _ _ h => h) (Or.inl ⟨by rfl, ?_⟩) ?_ ?_
                      rotate_left
                      · intro w'
                        go_simp
                        with_reducible rfl
                      rotate_left
                      · simp only [Act.put, List.setIfInBounds_toArray, List.set_cons_zero, List.set_cons_succ, i64_w, i32_w]
                        rfl
                      refine pure_ (i := 4) (N := some 66) (v := ?_) (a' := ?_) #[true, true, true, false, true, false, false, false, false] rfl rfl (any_of HT_.out (by kernel_rfl)) (fun _ _ _ h => h) (Or.inl ⟨by rfl, ?_⟩) ?_ ?_
                      rotate_left
                      · intro w'
                        go_simp
                        with_reducible rfl
                      rotate_left
                      · simp only [Act.put, List.setIfInBounds_toArray, List.set_cons_zero, List.set_cons_succ, i64_w, i32_w]
                        rfl
                      refine pure_ (i := 5) (N := some 67) (v := ?_) (a' := ?_) #[true, true, true, false, true, true, false, false, false] rfl rfl (any_of HT_.out (by kernel_rfl)) (fun _ _ _ h => h) (Or.inl ⟨by rfl, ?_⟩) ?_ ?_
                      rotate_left
                      · intro w'
                        go_simp
                        with_reducible rfl
                      rotate_left
                      · simp only [Act.put, List.setIfInBounds_toArray, List.set_cons_zero, List.set_cons_succ, i64_w, i32_w]
                        rfl
                      refine pure_ (i := 6) (N := some 68) (v := ?_) (a' := ?_) #[true, true, true, false, true, true, true, false, false] rfl rfl (any_of HT_.out (by kernel_rfl)) (fun _ _ _ h => h) (Or.inl ⟨by rfl, ?_⟩) ?_ ?_
                      rotate_left
                      · intro w'
                        go_simp
                        with_reducible rfl
                      rotate_left
                      · simp only [Act.put, List.setIfInBounds_toArray, List.set_cons_zero, List.set_cons_succ, i64_w, i32_w]
                        rfl
                      refine take_ (i := 3) (N := some 65) (v := ?_) (a' := ?_) #[true, true, true, true, true, true, true, false, false] rfl rfl (take_ofW HT_.out HW_.out (by kernel_rfl)) (fun _ _ _ h => h) (Or.inl ⟨by rfl, ?_⟩) hHeld ?_ ?_
                      rotate_left
                      · rintro w' ⟨s0, s1, s2, s3⟩
                        go_simp
                        with_reducible rfl
                      rotate_left
                      · simp only [Act.put, List.setIfInBounds_toArray, List.set_cons_zero, List.set_cons_succ, i64_w, i32_w]
                        rfl
                      refine take_ (i := 7) (N := some 69) (v := ?_) (a' := ?_) #[true, true, true, true, true, true, true, true, false] rfl rfl (take_ofW HT_.out HW_.out (by kernel_rfl)) (fun _ _ _ h => h) (Or.inl ⟨by rfl, ?_⟩) hHeld ?_ ?_
                      rotate_left
                      · rintro w' ⟨s0, s1, s2, s3⟩
                        go_simp
                        with_reducible rfl
                      rotate_left
                      · simp only [Act.put, List.setIfInBounds_toArray, List.set_cons_zero, List.set_cons_succ, i64_w, i32_w]
                        rfl
                      refine pure_ (i := 8) (N := some 70) (v := ?_) (a' := ?_) #[true, true, true, true, true, true, true, true, true] rfl rfl (any_of HT_.out (by kernel_rfl)) (fun _ _ _ h => h) (Or.inl ⟨by rfl, ?_⟩) ?_ ?_
                      rotate_left
                      · intro w'
                        go_simp
                        with_reducible rfl
                      rotate_left
                      · simp only [Act.put, List.setIfInBounds_toArray, List.set_cons_zero, List.set_cons_succ, i64_w, i32_w]
                        rfl
                      refine done_ (done_of HT_.out (by kernel_rfl)) ?_
                      try go_wp2
                      go_roundg k1
                      case measure => have := HK1.out; omega
                      case rel => exact ⟨(wrap64 (x59_1 + 1)), (by first | rfl | (simp; done) | (simp [*]; done)), H', ⟨by have := HK1.out; omega⟩, ⟨by (with_reducible repeat (first | apply Kd.R_alloc | apply Kd.R_drewN | apply Kd.R_drew)); exact HO_5.out⟩, ⟨by (with_reducible repeat (first | apply Kd.R_alloc | apply Kd.R_drewN | apply Kd.R_drew)); exact HO_7.out⟩, ⟨by (with_reducible repeat (first | apply Kd.R_alloc | apply Kd.R_drewN | apply Kd.R_drew)); exact HO_9.out⟩, ⟨by repeat (first | (with_reducible first | exact HB.out | apply below_alloc | apply pw_below_drewN | apply below_drew1) | exact HB.out)⟩⟩
                  · rw [if_neg c18] at H
                    exact absurd H (by simp)
                · rw [if_neg c17] at H
                  exact absurd H (by simp)
              · rw [if_neg c16] at H
                exact absurd H (by simp)
            · rw [if_neg c15] at H
              have c15b0 : decide (x59_1 < (t289.length : Int)) = false := decide_eq_false c15
              clear c15
              by_cases c21 : t290 = true
              · subst c21
                have H1 : (if (t285.length : Int) < 2 then (some ((t289.length : Int) == (wrap64 ((t285.length : Int) * t286)))) else ((laws_numberOf.f k1 l1).bind fun t299 => (if (t285.length : Int) = 0 then (none) else ((some (([] : List Int) : List Int)).bind fun y300 => (if 0 ≤ (Int.tmod t299 (t285.length : Int)) then (if (Int.tmod t299 (t285.length : Int)) ≤ (t285.length : Int) then ((some (t285.take ((Int.tmod t299 (t285.length : Int)) : Int).toNat : List Int)).bind fun y303 => (if y300.length + y303.length < 17592186044416 then ((some (y300 ++ y303 : List Int)).bind fun y307 => (if 0 ≤ (wrap64 ((Int.tmod t299 (t285.length : Int)) + 1)) then (if (wrap64 ((Int.tmod t299 (t285.length : Int)) + 1)) ≤ (t285.length : Int) then ((some (t285.drop ((wrap64 ((Int.tmod t299 (t285.length : Int)) + 1)) : Int).toNat : List Int)).bind fun y310 => (if y307.length + y310.length < 17592186044416 then ((impl_RingOf.f k1 (y307 ++ y310) t286).bind fun bt317 => ((spec_DrawRingServer.f k1 l1).bind fun bt321 => ((impl_RingServer.f t289 bt321.2).bind fun bt325 => ((impl_RingServer.f bt317.1 bt321.2).bind fun bt327 => ((spec_RingServer.f k1 t289 bt321.2).bind fun bt329 => (if bt317.2 = true then (if bt325.2 = true then (if bt327.2 = true then (if bt329.2 = true then (if bt325.1 = bt329.1 then (if (Int.tmod t299 (t285.length : Int)) < (t285.length : Int) then (if bt325.1 = (rd t285 (Int.tmod t299 (t285.length : Int))) then (some (bt327.1 != (rd t285 (Int.tmod t299 (t285.length : Int))))) else (if bt327.1 = bt325.1 then (some (bt327.1 != (rd t285 (Int.tmod t299 (t285.length : Int))))) else (none))) else (none)) else (none)) else (none)) else (none)) else (none)) else (none))))))) else (none))) else (none)) else (none))) else (none))) else (none)) else (none)))))) = some r := by rw [if_pos rfl] at H; exact H
                clear H
                have H := H1
                clear H1
                by_cases c22 : (t285.length : Int) < 2
                · rw [if_pos c22] at H
                  have c22b0 : decide ((t285.length : Int) < 2) = true := decide_eq_true c22
                  have c22b1 : decide (t285.length < 2) = true := decide_eq_true (by omega)
                  clear c22
                  obtain rfl := Option.some.inj H
                  go_wp2
                  go_ret
                  exact ⟨by first | rfl | (simp [errW_none, errW_some] <;> rfl) | (simp [*, errW_none, errW_some] <;> rfl), by repeat (first | (with_reducible first | exact HB.out | apply below_alloc | apply pw_below_drewN | apply below_drew1) | exact HB.out)⟩
                · rw [if_neg c22] at H
                  have c22b0 : decide ((t285.length : Int) < 2) = false := decide_eq_false c22
                  have c22b1 : decide (t285.length < 2) = false := decide_eq_false (by omega)
                  clear c22
                  replace H := Option.bind_eq_some_iff.mp H
                  obtain ⟨t299, A230, H⟩ := H
                  replace H : (if (t285.length : Int) = 0 then (none) else ((some (([] : List Int) : List Int)).bind fun y300 => (if 0 ≤ (Int.tmod t299 (t285.length : Int)) then (if (Int.tmod t299 (t285.length : Int)) ≤ (t285.length : Int) then ((some (t285.take ((Int.tmod t299 (t285.length : Int)) : Int).toNat : List Int)).bind fun y303 => (if y300.length + y303.length < 17592186044416 then ((some (y300 ++ y303 : List Int)).bind fun y307 => (if 0 ≤ (wrap64 ((Int.tmod t299 (t285.length : Int)) + 1)) then (if (wrap64 ((Int.tmod t299 (t285.length : Int)) + 1)) ≤ (t285.length : Int) then ((some (t285.drop ((wrap64 ((Int.tmod t299 (t285.length : Int)) + 1)) : Int).toNat : List Int)).bind fun y310 => (if y307.length + y310.length < 17592186044416 then ((impl_RingOf.f k1 (y307 ++ y310) t286).bind fun bt317 => ((spec_DrawRingServer.f k1 l1).bind fun bt321 => ((impl_RingServer.f t289 bt321.2).bind fun bt325 => ((impl_RingServer.f bt317.1 bt321.2).bind fun bt327 => ((spec_RingServer.f k1 t289 bt321.2).bind fun bt329 => (if bt317.2 = true then (if bt325.2 = true then (if bt327.2 = true then (if bt329.2 = true then (if bt325.1 = bt329.1 then (if (Int.tmod t299 (t285.length : Int)) < (t285.length : Int) then (if bt325.1 = (rd t285 (Int.tmod t299 (t285.length : Int))) then (some (bt327.1 != (rd t285 (Int.tmod t299 (t285.length : Int))))) else (if bt327.1 = bt325.1 then (some (bt327.1 != (rd t285 (Int.tmod t299 (t285.length : Int))))) else (none))) else (none)) else (none)) else (none)) else (none)) else (none)) else (none))))))) else (none))) else (none)) else (none))) else (none))) else (none)) else (none)))) = some r := H
                  have A23 := Aside0.mk A230
                  clear A230
                  by_cases c24 : (t285.length : Int) = 0
                  · rw [if_pos c24] at H
                    exact absurd H (by simp)
                  · rw [if_neg c24] at H
                    have c24b0 : ((t285.length : Int) == 0) = false := beq_eq_false_iff_ne.mpr c24
                    have c24b1 : ((t285.length : Int) != 0) = true := bne_iff_ne.mpr c24
                    have c24b2 : ¬ (t285 = []) := fun h_ => c24 (by rw [h_]; rfl)
                    obtain ⟨y300, hy300⟩ : ∃ y_ : List Int, y_ = (([] : List Int)) := ⟨_, rfl⟩
                    replace H : (if 0 ≤ (Int.tmod t299 (t285.length : Int)) then (if (Int.tmod t299 (t285.length : Int)) ≤ (t285.length : Int) then ((some (t285.take ((Int.tmod t299 (t285.length : Int)) : Int).toNat : List Int)).bind fun y303 => (if y300.length + y303.length < 17592186044416 then ((some (y300 ++ y303 : List Int)).bind fun y307 => (if 0 ≤ (wrap64 ((Int.tmod t299 (t285.length : Int)) + 1)) then (if (wrap64 ((Int.tmod t299 (t285.length : Int)) + 1)) ≤ (t285.length : Int) then ((some (t285.drop ((wrap64 ((Int.tmod t299 (t285.length : Int)) + 1)) : Int).toNat : List Int)).bind fun y310 => (if y307.length + y310.length < 17592186044416 then ((impl_RingOf.f k1 (y307 ++ y310) t286).bind fun bt317 => ((spec_DrawRingServer.f k1 l1).bind fun bt321 => ((impl_RingServer.f t289 bt321.2).bind fun bt325 => ((impl_RingServer.f bt317.1 bt321.2).bind fun bt327 => ((spec_RingServer.f k1 t289 bt321.2).bind fun bt329 => (if bt317.2 = true then (if bt325.2 = true then (if bt327.2 = true then (if bt329.2 = true then (if bt325.1 = bt329.1 then (if (Int.tmod t299 (t285.length : Int)) < (t285.length : Int) then (if bt325.1 = (rd t285 (Int.tmod t299 (t285.length : Int))) then (some (bt327.1 != (rd t285 (Int.tmod t299 (t285.length : Int))))) else (if bt327.1 = bt325.1 then (some (bt327.1 != (rd t285 (Int.tmod t299 (t285.length : Int))))) else (none))) else (none)) else (none)) else (none)) else (none)) else (none)) else (none))))))) else (none))) else (none)) else (none))) else (none))) else (none)) else (none)) = some r := by first | (rw [hy300]; with_reducible exact H) | (have H2_ := (Option.bind_some _ _).symm.trans H; rw [hy300]; with_reducible exact H2_) | (have H2_ := (Option.bind_some _ _).symm.trans H; with_reducible exact H2_) | with_reducible exact H | (rw [hy300]; exact H) | exact H
                    have Ny300 := Aside0.mk hy300
                    clear hy300
                    obtain ⟨ji25, hji25⟩ : ∃ j_ : Int, (Int.tmod t299 (t285.length : Int)) = j_ := ⟨_, rfl⟩
                    replace H : (if 0 ≤ (ji25) then (if (ji25) ≤ (t285.length : Int) then ((some (t285.take ((ji25) : Int).toNat : List Int)).bind fun y303 => (if y300.length + y303.length < 17592186044416 then ((some (y300 ++ y303 : List Int)).bind fun y307 => (if 0 ≤ (wrap64 ((ji25) + 1)) then (if (wrap64 ((ji25) + 1)) ≤ (t285.length : Int) then ((some (t285.drop ((wrap64 ((ji25) + 1)) : Int).toNat : List Int)).bind fun y310 => (if y307.length + y310.length < 17592186044416 then ((impl_RingOf.f k1 (y307 ++ y310) t286).bind fun bt317 => ((spec_DrawRingServer.f k1 l1).bind fun bt321 => ((impl_RingServer.f t289 bt321.2).bind fun bt325 => ((impl_RingServer.f bt317.1 bt321.2).bind fun bt327 => ((spec_RingServer.f k1 t289 bt321.2).bind fun bt329 => (if bt317.2 = true then (if bt325.2 = true then (if bt327.2 = true then (if bt329.2 = true then (if bt325.1 = bt329.1 then (if (ji25) < (t285.length : Int) then (if bt325.1 = (rd t285 (ji25)) then (some (bt327.1 != (rd t285 (ji25)))) else (if bt327.1 = bt325.1 then (some (bt327.1 != (rd t285 (ji25)))) else (none))) else (none)) else (none)) else (none)) else (none)) else (none)) else (none))))))) else (none))) else (none)) else (none))) else (none))) else (none)) else (none)) = some r := by first | (rw [hji25] at H; exact H) | (simp only [hji25] at H ⊢; exact H)
                    (try rw [hji25] at A23)
                    by_cases c26 : 0 ≤ (ji25)
                    · rw [if_pos c26] at H
                      have c26b0 := eq_true c26
                      have c26b1 : decide (0 ≤ (ji25)) = true := decide_eq_true c26
                      clear c26
                      by_cases c27 : (ji25) ≤ (t285.length : Int)
                      · rw [if_pos c27] at H
                        have c27b0 := eq_true c27
                        have c27b1 : decide ((ji25) ≤ (t285.length : Int)) = true := decide_eq_true c27
                        clear c27
                        obtain ⟨y303, hy303⟩ : ∃ y_ : List Int, y_ = (t285.take ((ji25) : Int).toNat) := ⟨_, rfl⟩
                        replace H : (if y300.length + y303.length < 17592186044416 then ((some (y300 ++ y303 : List Int)).bind fun y307 => (if 0 ≤ (wrap64 ((ji25) + 1)) then (if (wrap64 ((ji25) + 1)) ≤ (t285.length : Int) then ((some (t285.drop ((wrap64 ((ji25) + 1)) : Int).toNat : List Int)).bind fun y310 => (if y307.length + y310.length < 17592186044416 then ((impl_RingOf.f k1 (y307 ++ y310) t286).bind fun bt317 => ((spec_DrawRingServer.f k1 l1).bind fun bt321 => ((impl_RingServer.f t289 bt321.2).bind fun bt325 => ((impl_RingServer.f bt317.1 bt321.2).bind fun bt327 => ((spec_RingServer.f k1 t289 bt321.2).bind fun bt329 => (if bt317.2 = true then (if bt325.2 = true then (if bt327.2 = true then (if bt329.2 = true then (if bt325.1 = bt329.1 then (if (ji25) < (t285.length : Int) then (if bt325.1 = (rd t285 (ji25)) then (some (bt327.1 != (rd t285 (ji25)))) else (if bt327.1 = bt325.1 then (some (bt327.1 != (rd t285 (ji25)))) else (none))) else (none)) else (none)) else (none)) else (none)) else (none)) else (none))))))) else (none))) else (none)) else (none))) else (none)) = some r := by first | (rw [hy303]; with_reducible exact H) | (have H2_ := (Option.bind_some _ _).symm.trans H; rw [hy303]; with_reducible exact H2_) | (have H2_ := (Option.bind_some _ _).symm.trans H; with_reducible exact H2_) | with_reducible exact H | (rw [hy303]; exact H) | exact H
                        have Ny303 := Aside0.mk hy303
                        clear hy303
                        by_cases c28 : y300.length + y303.length < 17592186044416
                        · rw [if_pos c28] at H
                          have LMc28 := Aside0.mk c28
                          clear c28
                          obtain ⟨y307, hy307⟩ : ∃ y_ : List Int, y_ = (y300 ++ y303) := ⟨_, rfl⟩
                          replace H : (if 0 ≤ (wrap64 ((ji25) + 1)) then (if (wrap64 ((ji25) + 1)) ≤ (t285.length : Int) then ((some (t285.drop ((wrap64 ((ji25) + 1)) : Int).toNat : List Int)).bind fun y310 => (if y307.length + y310.length < 17592186044416 then ((impl_RingOf.f k1 (y307 ++ y310) t286).bind fun bt317 => ((spec_DrawRingServer.f k1 l1).bind fun bt321 => ((impl_RingServer.f t289 bt321.2).bind fun bt325 => ((impl_RingServer.f bt317.1 bt321.2).bind fun bt327 => ((spec_RingServer.f k1 t289 bt321.2).bind fun bt329 => (if bt317.2 = true then (if bt325.2 = true then (if bt327.2 = true then (if bt329.2 = true then (if bt325.1 = bt329.1 then (if (ji25) < (t285.length : Int) then (if bt325.1 = (rd t285 (ji25)) then (some (bt327.1 != (rd t285 (ji25)))) else (if bt327.1 = bt325.1 then (some (bt327.1 != (rd t285 (ji25)))) else (none))) else (none)) else (none)) else (none)) else (none)) else (none)) else (none))))))) else (none))) else (none)) else (none)) = some r := by first | (rw [hy307]; with_reducible exact H) | (have H2_ := (Option.bind_some _ _).symm.trans H; rw [hy307]; with_reducible exact H2_) | (have H2_ := (Option.bind_some _ _).symm.trans H; with_reducible exact H2_) | with_reducible exact H | (rw [hy307]; exact H) | exact H
                          have Ny307 := Aside0.mk hy307
                          clear hy307
                          obtain ⟨ji29, hji29⟩ : ∃ j_ : Int, (wrap64 ((ji25) + 1)) = j_ := ⟨_, rfl⟩
                          replace H : (if 0 ≤ (ji29) then (if (ji29) ≤ (t285.length : Int) then ((some (t285.drop ((ji29) : Int).toNat : List Int)).bind fun y310 => (if y307.length + y310.length < 17592186044416 then ((impl_RingOf.f k1 (y307 ++ y310) t286).bind fun bt317 => ((spec_DrawRingServer.f k1 l1).bind fun bt321 => ((impl_RingServer.f t289 bt321.2).bind fun bt325 => ((impl_RingServer.f bt317.1 bt321.2).bind fun bt327 => ((spec_RingServer.f k1 t289 bt321.2).bind fun bt329 => (if bt317.2 = true then (if bt325.2 = true then (if bt327.2 = true then (if bt329.2 = true then (if bt325.1 = bt329.1 then (if (ji25) < (t285.length : Int) then (if bt325.1 = (rd t285 (ji25)) then (some (bt327.1 != (rd t285 (ji25)))) else (if bt327.1 = bt325.1 then (some (bt327.1 != (rd t285 (ji25)))) else (none))) else (none)) else (none)) else (none)) else (none)) else (none)) else (none))))))) else (none))) else (none)) else (none)) = some r := by first | (rw [hji29] at H; exact H) | (simp only [hji29] at H ⊢; exact H)
                          (try rw [hji29] at A23)
                          have hji29w : (IntKind.i64.wrap ((ji25) + 1)) = ji29 := (i64_w _).trans hji29
                          by_cases c30 : 0 ≤ (ji29)
                          · rw [if_pos c30] at H
                            have c30b0 := eq_true c30
                            have c30b1 : decide (0 ≤ (ji29)) = true := decide_eq_true c30
                            clear c30
                            by_cases c31 : (ji29) ≤ (t285.length : Int)
                            · rw [if_pos c31] at H
                              have c31b0 := eq_true c31
                              have c31b1 : decide ((ji29) ≤ (t285.length : Int)) = true := decide_eq_true c31
                              clear c31
                              obtain ⟨y310, hy310⟩ : ∃ y_ : List Int, y_ = (t285.drop ((ji29) : Int).toNat) := ⟨_, rfl⟩
                              replace H : (if y307.length + y310.length < 17592186044416 then ((impl_RingOf.f k1 (y307 ++ y310) t286).bind fun bt317 => ((spec_DrawRingServer.f k1 l1).bind fun bt321 => ((impl_RingServer.f t289 bt321.2).bind fun bt325 => ((impl_RingServer.f bt317.1 bt321.2).bind fun bt327 => ((spec_RingServer.f k1 t289 bt321.2).bind fun bt329 => (if bt317.2 = true then (if bt325.2 = true then (if bt327.2 = true then (if bt329.2 = true then (if bt325.1 = bt329.1 then (if (ji25) < (t285.length : Int) then (if bt325.1 = (rd t285 (ji25)) then (some (bt327.1 != (rd t285 (ji25)))) else (if bt327.1 = bt325.1 then (some (bt327.1 != (rd t285 (ji25)))) else (none))) else (none)) else (none)) else (none)) else (none)) else (none)) else (none))))))) else (none)) = some r := by first | (rw [hy310]; with_reducible exact H) | (have H2_ := (Option.bind_some _ _).symm.trans H; rw [hy310]; with_reducible exact H2_) | (have H2_ := (Option.bind_some _ _).symm.trans H; with_reducible exact H2_) | with_reducible exact H | (rw [hy310]; exact H) | exact H
                              have Ny310 := Aside0.mk hy310
                              clear hy310
                              by_cases c32 : y307.length + y310.length < 17592186044416
                              · rw [if_pos c32] at H
                                have LMc32 := Aside0.mk c32
                                clear c32
                                obtain ⟨y314, hy314⟩ : ∃ y_ : List Int, y_ = (y307 ++ y310) := ⟨_, rfl⟩
                                replace H : ((impl_RingOf.f k1 y314 t286).bind fun bt317 => ((spec_DrawRingServer.f k1 l1).bind fun bt321 => ((impl_RingServer.f t289 bt321.2).bind fun bt325 => ((impl_RingServer.f bt317.1 bt321.2).bind fun bt327 => ((spec_RingServer.f k1 t289 bt321.2).bind fun bt329 => (if bt317.2 = true then (if bt325.2 = true then (if bt327.2 = true then (if bt329.2 = true then (if bt325.1 = bt329.1 then (if (ji25) < (t285.length : Int) then (if bt325.1 = (rd t285 (ji25)) then (some (bt327.1 != (rd t285 (ji25)))) else (if bt327.1 = bt325.1 then (some (bt327.1 != (rd t285 (ji25)))) else (none))) else (none)) else (none)) else (none)) else (none)) else (none)) else (none))))))) = some r := by first | (rw [hy314]; with_reducible exact H) | (have H2_ := (Option.bind_some _ _).symm.trans H; rw [hy314]; with_reducible exact H2_) | (have H2_ := (Option.bind_some _ _).symm.trans H; with_reducible exact H2_) | with_reducible exact H | (rw [hy314]; exact H) | exact H
                                have Ny314 := Aside0.mk hy314
                                clear hy314
                                replace H := Option.bind_eq_some_iff.mp H
                                obtain ⟨⟨t317, t318⟩, A330, H⟩ := H
                                replace H : ((spec_DrawRingServer.f k1 l1).bind fun bt321 => ((impl_RingServer.f t289 bt321.2).bind fun bt325 => ((impl_RingServer.f t317 bt321.2).bind fun bt327 => ((spec_RingServer.f k1 t289 bt321.2).bind fun bt329 => (if t318 = true then (if bt325.2 = true then (if bt327.2 = true then (if bt329.2 = true then (if bt325.1 = bt329.1 then (if (ji25) < (t285.length : Int) then (if bt325.1 = (rd t285 (ji25)) then (some (bt327.1 != (rd t285 (ji25)))) else (if bt327.1 = bt325.1 then (some (bt327.1 != (rd t285 (ji25)))) else (none))) else (none)) else (none)) else (none)) else (none)) else (none)) else (none)))))) = some r := H
                                have A33 := Aside0.mk A330
                                clear A330
                                replace H := Option.bind_eq_some_iff.mp H
                                obtain ⟨⟨t321, t322⟩, A340, H⟩ := H
                                replace H : ((impl_RingServer.f t289 t322).bind fun bt325 => ((impl_RingServer.f t317 t322).bind fun bt327 => ((spec_RingServer.f k1 t289 t322).bind fun bt329 => (if t318 = true then (if bt325.2 = true then (if bt327.2 = true then (if bt329.2 = true then (if bt325.1 = bt329.1 then (if (ji25) < (t285.length : Int) then (if bt325.1 = (rd t285 (ji25)) then (some (bt327.1 != (rd t285 (ji25)))) else (if bt327.1 = bt325.1 then (some (bt327.1 != (rd t285 (ji25)))) else (none))) else (none)) else (none)) else (none)) else (none)) else (none)) else (none))))) = some r := H
                                have A34 := Aside0.mk A340
                                clear A340
                                replace H := Option.bind_eq_some_iff.mp H
                                obtain ⟨⟨t325, t326⟩, A350, H⟩ := H
                                replace H : ((impl_RingServer.f t317 t322).bind fun bt327 => ((spec_RingServer.f k1 t289 t322).bind fun bt329 => (if t318 = true then (if t326 = true then (if bt327.2 = true then (if bt329.2 = true then (if t325 = bt329.1 then (if (ji25) < (t285.length : Int) then (if t325 = (rd t285 (ji25)) then (some (bt327.1 != (rd t285 (ji25)))) else (if bt327.1 = t325 then (some (bt327.1 != (rd t285 (ji25)))) else (none))) else (none)) else (none)) else (none)) else (none)) else (none)) else (none)))) = some r := H
                                have A35 := Aside0.mk A350
                                clear A350
                                replace H := Option.bind_eq_some_iff.mp H
                                obtain ⟨⟨t327, t328⟩, A360, H⟩ := H
                                replace H : ((spec_RingServer.f k1 t289 t322).bind fun bt329 => (if t318 = true then (if t326 = true then (if t328 = true then (if bt329.2 = true then (if t325 = bt329.1 then (if (ji25) < (t285.length : Int) then (if t325 = (rd t285 (ji25)) then (some (t327 != (rd t285 (ji25)))) else (if t327 = t325 then (some (t327 != (rd t285 (ji25)))) else (none))) else (none)) else (none)) else (none)) else (none)) else (none)) else (none))) = some r := H
                                have A36 := Aside0.mk A360
                                clear A360
                                replace H := Option.bind_eq_some_iff.mp H
                                obtain ⟨⟨t329, t330⟩, A370, H⟩ := H
                                replace H : (if t318 = true then (if t326 = true then (if t328 = true then (if t330 = true then (if t325 = t329 then (if (ji25) < (t285.length : Int) then (if t325 = (rd t285 (ji25)) then (some (t327 != (rd t285 (ji25)))) else (if t327 = t325 then (some (t327 != (rd t285 (ji25)))) else (none))) else (none)) else (none)) else (none)) else (none)) else (none)) else (none)) = some r := H
                                have A37 := Aside0.mk A370
                                clear A370
                                by_cases c38 : t318 = true
                                · subst c38
                                  have H1 : (if t326 = true then (if t328 = true then (if t330 = true then (if t325 = t329 then (if (ji25) < (t285.length : Int) then (if t325 = (rd t285 (ji25)) then (some (t327 != (rd t285 (ji25)))) else (if t327 = t325 then (some (t327 != (rd t285 (ji25)))) else (none))) else (none)) else (none)) else (none)) else (none)) else (none)) = some r := by rw [if_pos rfl] at H; exact H
                                  clear H
                                  have H := H1
                                  clear H1
                                  by_cases c39 : t326 = true
                                  · subst c39
                                    have H1 : (if t328 = true then (if t330 = true then (if t325 = t329 then (if (ji25) < (t285.length : Int) then (if t325 = (rd t285 (ji25)) then (some (t327 != (rd t285 (ji25)))) else (if t327 = t325 then (some (t327 != (rd t285 (ji25)))) else (none))) else (none)) else (none)) else (none)) else (none)) = some r := by rw [if_pos rfl] at H; exact H
                                    clear H
                                    have H := H1
                                    clear H1
                                    by_cases c40 : t328 = true
                                    · subst c40
                                      have H1 : (if t330 = true then (if t325 = t329 then (if (ji25) < (t285.length : Int) then (if t325 = (rd t285 (ji25)) then (some (t327 != (rd t285 (ji25)))) else (if t327 = t325 then (some (t327 != (rd t285 (ji25)))) else (none))) else (none)) else (none)) else (none)) = some r := by rw [if_pos rfl] at H; exact H
                                      clear H
                                      have H := H1
                                      clear H1
                                      by_cases c41 : t330 = true
                                      · subst c41
                                        have H1 : (if t325 = t329 then (if (ji25) < (t285.length : Int) then (if t325 = (rd t285 (ji25)) then (some (t327 != (rd t285 (ji25)))) else (if t327 = t325 then (some (t327 != (rd t285 (ji25)))) else (none))) else (none)) else (none)) = some r := by rw [if_pos rfl] at H; exact H
                                        clear H
                                        have H := H1
                                        clear H1
                                        by_cases c42 : t325 = t329
                                        · rw [if_pos c42] at H
                                          have c42b0 : (t325 == t329) = true := beq_iff_eq.mpr c42
                                          have c42b1 : (t325 != t329) = false := bne_eq_false_iff_eq.mpr c42
                                          clear c42
                                          by_cases c43 : (ji25) < (t285.length : Int)
                                          · rw [if_pos c43] at H
                                            have c43b0 : decide ((ji25) < (t285.length : Int)) = true := decide_eq_true c43
                                            clear c43
                                            by_cases c44 : t325 = (rd t285 (ji25))
                                            · rw [if_pos c44] at H
                                              have c44b0 : (t325 == (rd t285 (ji25))) = true := beq_iff_eq.mpr c44
                                              have c44b1 : (t325 != (rd t285 (ji25))) = false := bne_eq_false_iff_eq.mpr c44
                                              clear c44
                                              obtain rfl := Option.some.inj H
                                              try go_wp2_with (first | ((with_reducible refine gate_callee (f := 7) rfl ?_); refine goesL_ (some 88) rfl rfl Tryd.func7 (by kernel_rfl) rfl #[.slice A1 l1.length c1] rfl (by (try simp only [List.map_toArray, List.map_cons, List.map_nil]); first | done | rfl | (simp only [List.length_drop, List.length_take]; rfl)) ?_; (with_reducible refine (laws_numberOf.calls k1 _ _ l1 t299 _ ?side1 ?side2 A23.out).mono ?_); (case side1 => repeat (first | exact (Kd.C_below HR1.out HB.out) | (with_reducible refine Kd.C_alloc ?_ _) | (with_reducible refine Kd.C_drewN ?_ _) | (with_reducible refine Kd.C_drew ?_))); (case side2 => exact HC1.out); rintro e w' ⟨rfl, ⟨nd, rfl⟩⟩; refine ⟨_, rfl, ?_⟩))
                                              (try (rw [drewN_self wr]; generalize hq_ : World.drewN wr _ = wr; have n0_ : Aside0 (Kd.R (Kd.int .i64) 3 wr w.heap.size (fun _ => True) (.slice Ao10 t285.length co10) t285) := ⟨by rw [← hq_]; exact (by (with_reducible repeat (first | apply Kd.R_alloc | apply Kd.R_drewN | apply Kd.R_drew)); exact HO_5.out)⟩; have n1_ : Aside0 (Kd.R k31 31 wr w.heap.size (fun k_ => some k_ ≠ (.slice Ao14 t293.length co14 : Value).ownBlock) (.slice Ao13 t289.length co13) t289) := ⟨by rw [← hq_]; exact (by (with_reducible repeat (first | apply Kd.R_alloc | apply Kd.R_drewN | apply Kd.R_drew)); exact HO_7.out)⟩; have n2_ : Aside0 (Kd.R k31 31 wr w.heap.size (fun k_ => some k_ ≠ (.slice Ao13 t289.length co13 : Value).ownBlock) (.slice Ao14 t293.length co14) t293) := ⟨by rw [← hq_]; exact (by (with_reducible repeat (first | apply Kd.R_alloc | apply Kd.R_drewN | apply Kd.R_drew)); exact HO_9.out)⟩; have n3_ : Aside0 (Below w.heap.size w wr) := ⟨by rw [← hq_]; exact (by repeat (first | (with_reducible first | exact HB.out | apply below_alloc | apply pw_below_drewN | apply below_drew1) | exact HB.out))⟩; clear HO_5 HO_7 HO_9 HB hq_; have HO_5 := n0_; have HO_7 := n1_; have HO_9 := n2_; have HB := n3_; clear n0_ n1_ n2_ n3_))
                                              have n0_ := Aside0.mk (Kd.R_drew HO_5.out)
                                              have n1_ := Aside0.mk (Kd.R_drew HO_7.out)
                                              have n2_ := Aside0.mk (Kd.R_drew HO_9.out)
                                              have n3_ := Aside0.mk (below_drew1 HB.out)
                                              clear HO_5
                                              clear HO_7
                                              clear HO_9
                                              clear HB
                                              have HO_5 := n0_
                                              have HO_7 := n1_
                                              have HO_9 := n2_
                                              have HB := n3_
                                              clear n0_ n1_ n2_ n3_
                                              have q46 : ((ji25) : Int) ≤ ((t285.length : Int) : Int) := of_decide_eq_true (by first | (with_reducible assumption) | assumption)
                                              obtain ⟨i046, hi046, _, hsz46, _⟩ := info_parts info3
                                              have hroom46 : t285.length ≤ co10 := (Kd.R_reads' HO_5.out).2.1
                                              have hC46 : Kd.C (Kd.int .i64) _ Ao10 t285.length t285 := (Kd.R_reads' HO_5.out).2.2
                                              have hcut46 := cut_to (P := Tryd.prog) 23 3 .i64 Tryd.underlying23 hi046 Ao10 t285.length co10 (ji25) (of_decide_eq_true (by first | (with_reducible assumption) | assumption)) q46 hroom46
                                              have hr46 := Kd.C_take (m := ((ji25) : Int).toNat) hC46 (by omega)
                                              have hy46 : y303.length = ((ji25) : Int).toNat := (by rw [Ny303.out, List.length_take]; omega)
                                              rw [← Ny303.out] at hr46
                                              rw [← hy46] at hcut46
                                              have HR306 := Aside0.mk hr46
                                              have HC306 := Aside0.mk (show y303.length ≤ co10 from by omega)
                                              clear hr46 hC46 hroom46 hi046 hsz46
                                              have KY46 := Aside0.mk hy46
                                              clear hy46
                                              have KL46 := Aside0.mk (show ((ji25) : Int).toNat ≤ t285.length from by omega)
                                              replace q46 := eq_true q46
                                              have q47 : ((ji29) : Int) ≤ ((t285.length : Int) : Int) := of_decide_eq_true (by first | (with_reducible assumption) | assumption)
                                              obtain ⟨i047, hi047, _, hsz47, _⟩ := info_parts info3
                                              have hroom47 : t285.length ≤ co10 := (Kd.R_reads' HO_5.out).2.1
                                              have hC47 : Kd.C (Kd.int .i64) _ Ao10 t285.length t285 := (Kd.R_reads' HO_5.out).2.2
                                              have q047 : (0 : Int) ≤ ((ji29) : Int) := of_decide_eq_true (by first | (with_reducible assumption) | assumption)
                                              have hcut47 := cut_from (P := Tryd.prog) 23 3 .i64 Tryd.underlying23 hi047 1 hsz47 Ao10 t285.length co10 (ji29) q047 q47
                                              have hr47 := Kd.C_drop (m := ((ji29) : Int).toNat) (c := co10) hC47 (by omega) hroom47
                                              obtain ⟨A47, hA47⟩ : ∃ A1, A1 = (if co10 = ((ji29) : Int).toNat then Ao10 else (Ao10 : Option Addr).map (·.add (((ji29) : Int).toNat * 1))) := ⟨_, rfl⟩
                                              obtain ⟨c47, hc47⟩ : ∃ c1, c1 = co10 - ((ji29) : Int).toNat := ⟨_, rfl⟩
                                              have hy47 : y310.length = t285.length - ((ji29) : Int).toNat := (by rw [Ny310.out, List.length_drop] <;> omega)
                                              rw [show (t285).drop ((ji29) : Int).toNat = y310 from Ny310.out.symm] at hr47
                                              replace hr47 : Kd.C (Kd.int .i64) _ A47 y310.length y310 := (by rw [hA47]; exact hr47)
                                              rw [← hy47, ← hA47, ← hc47] at hcut47
                                              have HR313 := Aside0.mk hr47
                                              have HC313 := Aside0.mk (show y310.length ≤ c47 from by rw [hy47, hc47]; exact Nat.sub_le_sub_right hroom47 _)
                                              clear hr47 hC47 hroom47 hi047 hsz47 hc47
                                              have KY47 := Aside0.mk hy47
                                              have KA47 := Aside0.mk hA47
                                              clear hy47 hA47
                                              have KL47 := Aside0.mk (show ((ji29) : Int).toNat ≤ t285.length from by omega)
                                              replace q47 := eq_true q47
                                              refine start_ (n := 11) (S := fun w' => True) (ds := []) #[false, false, false, false, false, false, false, false, false, false, false] (by kernel_rfl) rfl rfl trivial (fun hHeld => ?_); refine with_tabW laws_FnRing.tab19 laws_FnRing.bits19 (fun HT_ HW_ => ?_)
                                              generalize wr.drew = w45 at HO_5 HO_7 HO_9 HB HR306 HR313 hHeld ⊢
                                              refine pure_ (i := 1) (N := some 93) (v := ?_) (a' := ?_) #[false, true, false, false, false, false, false, false, false, false, false] rfl rfl (any_of HT_.out (by kernel_rfl)) (fun _ _ _ h => h) (Or.inl ⟨by rfl, ?_⟩) ?_ ?_
                                              rotate_left
                                              · intro w'
                                                go_simp
                                                with_reducible rfl
                                              rotate_left
                                              · simp only [Act.put, List.setIfInBounds_toArray, List.set_cons_zero, List.set_cons_succ, i64_w, i32_w]
                                                rfl
                                              refine pure_ (i := 2) (N := some 94) (v := ?_) (a' := ?_) #[false, true, true, false, false, false, false, false, false, false, false] rfl rfl (any_of HT_.out (by kernel_rfl)) (fun _ _ _ h => h) (Or.inl ⟨by rfl, ?_⟩) ?_ ?_
                                              rotate_left
                                              · intro w'
                                                go_simp
                                                with_reducible rfl
                                              rotate_left
                                              · simp only [Act.put, List.setIfInBounds_toArray, List.set_cons_zero, List.set_cons_succ, i64_w, i32_w]
                                                rfl
                                              refine pure_ (i := 3) (N := some 95) (v := ?_) (a' := ?_) #[false, true, true, true, false, false, false, false, false, false, false] rfl rfl (any_of HT_.out (by kernel_rfl)) (fun _ _ _ h => h) (Or.inl ⟨by rfl, ?_⟩) ?_ ?_
                                              rotate_left
                                              · intro w'
                                                go_simp
                                                with_reducible rfl
                                              rotate_left
                                              · simp only [Act.put, List.setIfInBounds_toArray, List.set_cons_zero, List.set_cons_succ, i64_w, i32_w]
                                                rfl
                                              refine pure_ (i := 5) (N := some 97) (v := ?_) (a' := ?_) #[false, true, true, true, false, true, false, false, false, false, false] rfl rfl (any_of HT_.out (by kernel_rfl)) (fun _ _ _ h => h) (Or.inl ⟨by rfl, ?_⟩) ?_ ?_
                                              rotate_left
                                              · intro w'
                                                go_simp
                                                with_reducible rfl
                                              rotate_left
                                              · simp only [Act.put, List.setIfInBounds_toArray, List.set_cons_zero, List.set_cons_succ, i64_w, i32_w]
                                                rfl
                                              refine pure_ (i := 6) (N := some 98) (v := ?_) (a' := ?_) #[false, true, true, true, false, true, true, false, false, false, false] rfl rfl (any_of HT_.out (by kernel_rfl)) (fun _ _ _ h => h) (Or.inl ⟨by rfl, ?_⟩) ?_ ?_
                                              rotate_left
                                              · intro w'
                                                go_simp
                                                with_reducible rfl
                                              rotate_left
                                              · simp only [Act.put, List.setIfInBounds_toArray, List.set_cons_zero, List.set_cons_succ, i64_w, i32_w]
                                                rfl
                                              refine pure_ (i := 7) (N := some 99) (v := ?_) (a' := ?_) #[false, true, true, true, false, true, true, true, false, false, false] rfl rfl (any_of HT_.out (by kernel_rfl)) (fun _ _ _ h => h) (Or.inl ⟨by rfl, ?_⟩) ?_ ?_
                                              rotate_left
                                              · intro w'
                                                go_simp
                                                with_reducible rfl
                                              rotate_left
                                              · simp only [Act.put, List.setIfInBounds_toArray, List.set_cons_zero, List.set_cons_succ, i64_w, i32_w]
                                                rfl
                                              refine pure_ (i := 8) (N := some 100) (v := ?_) (a' := ?_) #[false, true, true, true, false, true, true, true, true, false, false] rfl rfl (any_of HT_.out (by kernel_rfl)) (fun _ _ _ h => h) (Or.inl ⟨by rfl, ?_⟩) ?_ ?_
                                              rotate_left
                                              · intro w'
                                                go_simp
                                                with_reducible rfl
                                              rotate_left
                                              · simp only [Act.put, List.setIfInBounds_toArray, List.set_cons_zero, List.set_cons_succ, i64_w, i32_w]
                                                rfl
                                              refine one_ (i := 0) (N := some 92) #[true, true, true, true, false, true, true, true, true, false, false] rfl rfl (one_of HT_.out (by kernel_rfl)) (by decide) (fun K hK => ?_)
                                              refine Kd.R_lit_step (Kd.int .i64) _ 3 ?hg (N := 92) ?hd (xs := ([] : List Int)) (inner := []) (ok := fun _ => True) (okp := fun _ => True) ?hr ?hp (fun _ hk => hk) trivial (Below.refl _ _) (Nat.le_refl _) (by simp) ?_; (case hd => rfl); (case hg => rfl); (case hr => first | (go_simp; done) | (go_simp; rfl)); (case hp => exact (Reps.none _ _))
                                              intro v301 w48 ho49 hb hg_ hnew_
                                              clear hg_ hnew_
                                              (first | rw [← Ny300.out] at ho49 | (simp only [Int.reduceToNat] at ho49; rw [← Ny300.out] at ho49))
                                              have n0_ := Aside0.mk (Kd.R_elder' (by (with_reducible repeat (first | apply Kd.R_alloc | apply Kd.R_drewN | apply Kd.R_drew)); exact HO_5.out) (Kd.R_base ho49) hb)
                                              have n1_ := Aside0.mk (Kd.R_below (by (with_reducible repeat (first | apply Kd.R_alloc | apply Kd.R_drewN | apply Kd.R_drew)); exact HO_7.out) hb)
                                              have n2_ := Aside0.mk (Kd.R_below (by (with_reducible repeat (first | apply Kd.R_alloc | apply Kd.R_drewN | apply Kd.R_drew)); exact HO_9.out) hb)
                                              have n3_ := Aside0.mk (Kd.R_lower (Kd.R_new' ho49 (Kd.R_lt (by (with_reducible repeat (first | apply Kd.R_alloc | apply Kd.R_drewN | apply Kd.R_drew)); exact HO_5.out))) (below_size (by repeat (first | (with_reducible first | exact HB.out | apply below_alloc | apply pw_below_drewN | apply below_drew1) | exact HB.out))))
                                              have n4_ := Aside0.mk (Kd.C_below (by repeat (first | (with_reducible exact HR306.out) | (with_reducible refine Kd.C_alloc ?_ _) | (with_reducible refine Kd.C_drewN ?_ _) | (with_reducible refine Kd.C_drew ?_) | exact HR306.out)) hb)
                                              have n5_ := Aside0.mk (Kd.C_below (by repeat (first | (with_reducible exact HR313.out) | (with_reducible refine Kd.C_alloc ?_ _) | (with_reducible refine Kd.C_drewN ?_ _) | (with_reducible refine Kd.C_drew ?_) | exact HR313.out)) hb)
                                              have n6_ := Aside0.mk (below_step (by repeat (first | (with_reducible first | exact HB.out | apply below_alloc | apply pw_below_drewN | apply below_drew1) | exact HB.out)) hb)
                                              clear HO_5
                                              clear HO_7
                                              clear HO_9
                                              clear HR306
                                              clear HR313
                                              clear HB
                                              have HO_5 := n0_
                                              have HO_7 := n1_
                                              have HO_9 := n2_
                                              have HO302 := n3_
                                              have HR306 := n4_
                                              have HR313 := n5_
                                              have HB := n6_
                                              clear n0_ n1_ n2_ n3_ n4_ n5_ n6_
                                              clear hb ho49
                                              refine hK.out _ _ trivial (fun hHeld => ?_)
                                              clear hK K
                                              refine norm_ (a' := ?_) ?_ ?_
                                              rotate_left
                                              · show Act.put _ (some 92) _ = _
                                                simp only [Act.put, List.setIfInBounds_toArray, List.set_cons_zero, List.set_cons_succ, i64_w, i32_w]
                                                rfl
                                              refine one_ (i := 4) (N := some 96) #[true, true, true, true, true, true, true, true, true, false, false] rfl rfl (one_of HT_.out (by kernel_rfl)) (by decide) (fun K hK => ?_)
                                              refine Kd.R_append_rows_step (Kd.int .i64) (w0 := w) w.heap.size (by rfl) (.tmp 92) (.tmp 95) 23 3 (.int .i64 0) 8 rfl Tryd.underlying23 info3 rfl (by decide) (by omega) v301 y300 y303 _ _ _ (fun k_ => some k_ ≠ (.slice Ao10 t285.length co10 : Value).ownBlock) (fun _ => False) rfl rfl ?aO ?aR (fun _ _ h => h) (fun _ h => h.elim) ?aF ?aB ?aS ?aL ?_
                                              (case aR => repeat (first | exact (by repeat (first | (with_reducible exact HR306.out) | (with_reducible refine Kd.C_alloc ?_ _) | (with_reducible refine Kd.C_drewN ?_ _) | (with_reducible refine Kd.C_drew ?_) | exact HR306.out)) | (with_reducible refine Kd.C_alloc ?_ _) | (with_reducible refine Kd.C_drewN ?_ _) | (with_reducible refine Kd.C_drew ?_)))
                                              (case aB => exact (by repeat (first | (with_reducible first | exact HB.out | apply below_alloc | apply pw_below_drewN | apply below_drew1) | exact HB.out)))
                                              (case aF => exact (fun k_ hk => Kd.fresh' (Kd.R_lt (by (with_reducible repeat (first | apply Kd.R_alloc | apply Kd.R_drewN | apply Kd.R_drew)); exact HO_5.out)) k_ hk))
                                              (case aO => exact (by (with_reducible repeat (first | apply Kd.R_alloc | apply Kd.R_drewN | apply Kd.R_drew)); exact Kd.R_mono HO302.out (fun _ hk => hk.2)))
                                              (case aS => exact (below_size (by repeat (first | (with_reducible first | exact HB.out | apply below_alloc | apply pw_below_drewN | apply below_drew1) | exact HB.out))))
                                              (case aL => have := LMc28.out; omega)
                                              intro v308 w50 ho hb hg hat
                                              rw [← Ny307.out] at ho
                                              have n0_ := Aside0.mk (Kd.R_after (ok := (fun _ => True)) (by (with_reducible repeat (first | apply Kd.R_alloc | apply Kd.R_drewN | apply Kd.R_drew)); exact HO_5.out) hg hat)
                                              have n1_ := Aside0.mk (Kd.R_over' (by (with_reducible repeat (first | apply Kd.R_alloc | apply Kd.R_drewN | apply Kd.R_drew)); exact HO_7.out) (Kd.R_typed (by (with_reducible repeat (first | apply Kd.R_alloc | apply Kd.R_drewN | apply Kd.R_drew)); exact HO302.out)) (by decide) hg)
                                              have n2_ := Aside0.mk (Kd.R_over' (by (with_reducible repeat (first | apply Kd.R_alloc | apply Kd.R_drewN | apply Kd.R_drew)); exact HO_9.out) (Kd.R_typed (by (with_reducible repeat (first | apply Kd.R_alloc | apply Kd.R_drewN | apply Kd.R_drew)); exact HO302.out)) (by decide) hg)
                                              have n3_ := Aside0.mk (hb)
                                              have n4_ := Aside0.mk ((show Kd.C (Kd.int .i64) w50 Ao10 y303.length y303 from by rw [Ny303.out]; exact Kd.C_take (m := ((ji25) : Int).toNat) ((Kd.R_reads' (Kd.R_after (ok := (fun _ => True)) (by (with_reducible repeat (first | apply Kd.R_alloc | apply Kd.R_drewN | apply Kd.R_drew)); exact HO_5.out) hg hat)).2.2) KL46.out))
                                              have n5_ := Aside0.mk ((show Kd.C (Kd.int .i64) w50 A47 y310.length y310 from by rw [Ny310.out, KA47.out]; exact Kd.C_drop (m := ((ji29) : Int).toNat) (c := co10) ((Kd.R_reads' (Kd.R_after (ok := (fun _ => True)) (by (with_reducible repeat (first | apply Kd.R_alloc | apply Kd.R_drewN | apply Kd.R_drew)); exact HO_5.out) hg hat)).2.2) KL47.out ((Kd.R_reads' (Kd.R_after (ok := (fun _ => True)) (by (with_reducible repeat (first | apply Kd.R_alloc | apply Kd.R_drewN | apply Kd.R_drew)); exact HO_5.out) hg hat)).2.1)))
                                              have n6_ := Aside0.mk (ho)
                                              clear HO_5
                                              clear HO_7
                                              clear HO_9
                                              clear HB
                                              clear HR306
                                              clear HR313
                                              clear HO302
                                              have HO_5 := n0_
                                              have HO_7 := n1_
                                              have HO_9 := n2_
                                              have HB := n3_
                                              have HR306 := n4_
                                              have HR313 := n5_
                                              have HO309 := n6_
                                              clear n0_ n1_ n2_ n3_ n4_ n5_ n6_
                                              clear ho hb hg hat
                                              refine hK.out _ _ trivial (fun hHeld => ?_)
                                              clear hK K
                                              refine norm_ (a' := ?_) ?_ ?_
                                              rotate_left
                                              · show Act.put _ (some 96) _ = _
                                                simp only [Act.put, List.setIfInBounds_toArray, List.set_cons_zero, List.set_cons_succ, i64_w, i32_w]
                                                rfl
                                              refine one_ (i := 9) (N := some 101) #[true, true, true, true, true, true, true, true, true, true, false] rfl rfl (one_of HT_.out (by kernel_rfl)) (by decide) (fun K hK => ?_)
                                              refine Kd.R_append_rows_step (Kd.int .i64) (w0 := w) w.heap.size (by rfl) (.tmp 96) (.tmp 100) 23 3 (.int .i64 0) 8 rfl Tryd.underlying23 info3 rfl (by decide) (by omega) v308 y307 y310 _ _ _ (fun k_ => some k_ ≠ (.slice Ao10 t285.length co10 : Value).ownBlock) (fun _ => False) rfl rfl ?aO ?aR (fun _ _ h => h) (fun _ h => h.elim) ?aF ?aB ?aS ?aL ?_
                                              (case aR => repeat (first | exact (by repeat (first | (with_reducible exact HR313.out) | (with_reducible refine Kd.C_alloc ?_ _) | (with_reducible refine Kd.C_drewN ?_ _) | (with_reducible refine Kd.C_drew ?_) | exact HR313.out)) | (with_reducible refine Kd.C_alloc ?_ _) | (with_reducible refine Kd.C_drewN ?_ _) | (with_reducible refine Kd.C_drew ?_)))
                                              (case aB => exact (by repeat (first | (with_reducible first | exact HB.out | apply below_alloc | apply pw_below_drewN | apply below_drew1) | exact HB.out)))
                                              (case aF => exact (fun k_ hk => Kd.fresh' (Kd.R_lt (by (with_reducible repeat (first | apply Kd.R_alloc | apply Kd.R_drewN | apply Kd.R_drew)); exact HO_5.out)) k_ hk))
                                              (case aO => exact (by (with_reducible repeat (first | apply Kd.R_alloc | apply Kd.R_drewN | apply Kd.R_drew)); exact HO309.out))
                                              (case aS => exact (below_size (by repeat (first | (with_reducible first | exact HB.out | apply below_alloc | apply pw_below_drewN | apply below_drew1) | exact HB.out))))
                                              (case aL => have := LMc32.out; omega)
                                              intro v315 w51 ho hb hg hat
                                              rw [← Ny314.out] at ho
                                              have n0_ := Aside0.mk (Kd.R_after (ok := (fun _ => True)) (by (with_reducible repeat (first | apply Kd.R_alloc | apply Kd.R_drewN | apply Kd.R_drew)); exact HO_5.out) hg hat)
                                              have n1_ := Aside0.mk (Kd.R_over' (by (with_reducible repeat (first | apply Kd.R_alloc | apply Kd.R_drewN | apply Kd.R_drew)); exact HO_7.out) (Kd.R_typed (by (with_reducible repeat (first | apply Kd.R_alloc | apply Kd.R_drewN | apply Kd.R_drew)); exact HO309.out)) (by decide) hg)
                                              have n2_ := Aside0.mk (Kd.R_over' (by (with_reducible repeat (first | apply Kd.R_alloc | apply Kd.R_drewN | apply Kd.R_drew)); exact HO_9.out) (Kd.R_typed (by (with_reducible repeat (first | apply Kd.R_alloc | apply Kd.R_drewN | apply Kd.R_drew)); exact HO309.out)) (by decide) hg)
                                              have n3_ := Aside0.mk (hb)
                                              have n4_ := Aside0.mk ((show Kd.C (Kd.int .i64) w51 Ao10 y303.length y303 from by rw [Ny303.out]; exact Kd.C_take (m := ((ji25) : Int).toNat) ((Kd.R_reads' (Kd.R_after (ok := (fun _ => True)) (by (with_reducible repeat (first | apply Kd.R_alloc | apply Kd.R_drewN | apply Kd.R_drew)); exact HO_5.out) hg hat)).2.2) KL46.out))
                                              have n5_ := Aside0.mk ((show Kd.C (Kd.int .i64) w51 A47 y310.length y310 from by rw [Ny310.out, KA47.out]; exact Kd.C_drop (m := ((ji29) : Int).toNat) (c := co10) ((Kd.R_reads' (Kd.R_after (ok := (fun _ => True)) (by (with_reducible repeat (first | apply Kd.R_alloc | apply Kd.R_drewN | apply Kd.R_drew)); exact HO_5.out) hg hat)).2.2) KL47.out ((Kd.R_reads' (Kd.R_after (ok := (fun _ => True)) (by (with_reducible repeat (first | apply Kd.R_alloc | apply Kd.R_drewN | apply Kd.R_drew)); exact HO_5.out) hg hat)).2.1)))
                                              have n6_ := Aside0.mk (ho)
                                              clear HO_5
                                              clear HO_7
                                              clear HO_9
                                              clear HB
                                              clear HR306
                                              clear HR313
                                              clear HO309
                                              have HO_5 := n0_
                                              have HO_7 := n1_
                                              have HO_9 := n2_
                                              have HB := n3_
                                              have HR306 := n4_
                                              have HR313 := n5_
                                              have HO316 := n6_
                                              clear n0_ n1_ n2_ n3_ n4_ n5_ n6_
                                              clear ho hb hg hat
                                              refine hK.out _ _ trivial (fun hHeld => ?_)
                                              clear hK K
                                              refine norm_ (a' := ?_) ?_ ?_
                                              rotate_left
                                              · show Act.put _ (some 101) _ = _
                                                simp only [Act.put, List.setIfInBounds_toArray, List.set_cons_zero, List.set_cons_succ, i64_w, i32_w]
                                                rfl
                                              refine pure_ (i := 10) (N := some 13) (v := ?_) (a' := ?_) #[true, true, true, true, true, true, true, true, true, true, true] rfl rfl (any_of HT_.out (by kernel_rfl)) (fun _ _ _ h => h) (Or.inl ⟨by rfl, ?_⟩) ?_ ?_
                                              rotate_left
                                              · intro w'
                                                go_simp
                                                with_reducible rfl
                                              rotate_left
                                              · simp only [Act.put, List.setIfInBounds_toArray, List.set_cons_zero, List.set_cons_succ, i64_w, i32_w]
                                                rfl
                                              refine done_ (done_of HT_.out (by kernel_rfl)) ?_
                                              obtain ⟨Ao52, co52, eo52⟩ := Kd.R_slice HO316.out
                                              subst eo52
                                              try go_wp2_with (first | ((with_reducible refine gate_callee (f := 5) rfl ?_); refine goesL_ (some 105) rfl rfl Tryd.func5 (by kernel_rfl) rfl #[.slice Ao52 y314.length co52, .int .i64 t286] rfl (by (try simp only [List.map_toArray, List.map_cons, List.map_nil]); first | done | rfl | (simp only [List.length_drop, List.length_take]; rfl)) ?_; (with_reducible refine (impl_RingOf.calls k1 _ _ y314 t286 t317 true _ ?side1 ?side2 A33.out).mono ?_); (case side1 => repeat (first | exact (Kd.R_reads' HO316.out).2.2 | (with_reducible refine Kd.C_alloc ?_ _) | (with_reducible refine Kd.C_drewN ?_ _) | (with_reducible refine Kd.C_drew ?_))); (case side2 => exact (Kd.R_reads' HO316.out).2.1); rintro e w53 ⟨v319, rfl, ho0, hb⟩; refine ⟨_, rfl, ?_⟩; have n0_ := Aside0.mk (Kd.R_below (by (with_reducible repeat (first | apply Kd.R_alloc | apply Kd.R_drewN | apply Kd.R_drew)); exact HO_5.out) hb); have n1_ := Aside0.mk (Kd.R_elder' (by (with_reducible repeat (first | apply Kd.R_alloc | apply Kd.R_drewN | apply Kd.R_drew)); exact HO_7.out) (Kd.R_base ho0) hb); have n2_ := Aside0.mk (Kd.R_elder' (by (with_reducible repeat (first | apply Kd.R_alloc | apply Kd.R_drewN | apply Kd.R_drew)); exact HO_9.out) (Kd.R_base ho0) hb); have n3_ := Aside0.mk (Kd.R_below (by (with_reducible repeat (first | apply Kd.R_alloc | apply Kd.R_drewN | apply Kd.R_drew)); exact HO316.out) hb); have n4_ := Aside0.mk (Kd.R_lower (Kd.R_new' (Kd.R_new' ho0 (Kd.R_lt (by (with_reducible repeat (first | apply Kd.R_alloc | apply Kd.R_drewN | apply Kd.R_drew)); exact HO_7.out))) (Kd.R_lt (by (with_reducible repeat (first | apply Kd.R_alloc | apply Kd.R_drewN | apply Kd.R_drew)); exact HO_9.out))) (below_size (by repeat (first | (with_reducible first | exact HB.out | apply below_alloc | apply pw_below_drewN | apply below_drew1) | exact HB.out)))); have n5_ := Aside0.mk (Kd.C_below (by repeat (first | (with_reducible exact HR306.out) | (with_reducible refine Kd.C_alloc ?_ _) | (with_reducible refine Kd.C_drewN ?_ _) | (with_reducible refine Kd.C_drew ?_) | exact HR306.out)) hb); have n6_ := Aside0.mk (Kd.C_below (by repeat (first | (with_reducible exact HR313.out) | (with_reducible refine Kd.C_alloc ?_ _) | (with_reducible refine Kd.C_drewN ?_ _) | (with_reducible refine Kd.C_drew ?_) | exact HR313.out)) hb); have n7_ := Aside0.mk (below_step (by repeat (first | (with_reducible first | exact HB.out | apply below_alloc | apply pw_below_drewN | apply below_drew1) | exact HB.out)) hb); clear HO_5; clear HO_7; clear HO_9; clear HO316; clear HR306; clear HR313; clear HB; have HO_5 := n0_; have HO_7 := n1_; have HO_9 := n2_; have HO316 := n3_; have HO320 := n4_; have HR306 := n5_; have HR313 := n6_; have HB := n7_; clear n0_ n1_ n2_ n3_ n4_ n5_ n6_ n7_; (try clear hb); (try clear hb2); (try clear hk); (try clear hi); (try clear ho0)) | ((with_reducible refine gate_callee (f := 8) rfl ?_); refine goesL_ (some 110) rfl rfl Tryd.func8 (by kernel_rfl) rfl #[.slice A1 l1.length c1] rfl (by (try simp only [List.map_toArray, List.map_cons, List.map_nil]); first | done | rfl | (simp only [List.length_drop, List.length_take]; rfl)) ?_; (with_reducible refine (spec_DrawRingServer.calls k1 _ _ l1 t321 t322 _ ?side1 ?side2 A34.out).mono ?_); (case side1 => repeat (first | exact (Kd.C_below HR1.out HB.out) | (with_reducible refine Kd.C_alloc ?_ _) | (with_reducible refine Kd.C_drewN ?_ _) | (with_reducible refine Kd.C_drew ?_))); (case side2 => exact HC1.out); rintro e w54 ⟨v323, rfl, ho0, hb⟩; refine ⟨_, rfl, ?_⟩; have n0_ := Aside0.mk (Kd.R_below (by (with_reducible repeat (first | apply Kd.R_alloc | apply Kd.R_drewN | apply Kd.R_drew)); exact HO_5.out) hb); have n1_ := Aside0.mk (Kd.R_elder' (by (with_reducible repeat (first | apply Kd.R_alloc | apply Kd.R_drewN | apply Kd.R_drew)); exact HO_7.out) (Kd.R_base ho0) hb); have n2_ := Aside0.mk (Kd.R_elder' (by (with_reducible repeat (first | apply Kd.R_alloc | apply Kd.R_drewN | apply Kd.R_drew)); exact HO_9.out) (Kd.R_base ho0) hb); have n3_ := Aside0.mk (Kd.R_below (by (with_reducible repeat (first | apply Kd.R_alloc | apply Kd.R_drewN | apply Kd.R_drew)); exact HO316.out) hb); have n4_ := Aside0.mk (Kd.R_elder' (by (with_reducible repeat (first | apply Kd.R_alloc | apply Kd.R_drewN | apply Kd.R_drew)); exact HO320.out) (Kd.R_base ho0) hb); have n5_ := Aside0.mk (Kd.R_lower (Kd.R_new' (Kd.R_new' (Kd.R_new' ho0 (Kd.R_lt (by (with_reducible repeat (first | apply Kd.R_alloc | apply Kd.R_drewN | apply Kd.R_drew)); exact HO_7.out))) (Kd.R_lt (by (with_reducible repeat (first | apply Kd.R_alloc | apply Kd.R_drewN | apply Kd.R_drew)); exact HO_9.out))) (Kd.R_lt (by (with_reducible repeat (first | apply Kd.R_alloc | apply Kd.R_drewN | apply Kd.R_drew)); exact HO320.out))) (below_size (by repeat (first | (with_reducible first | exact HB.out | apply below_alloc | apply pw_below_drewN | apply below_drew1) | exact HB.out)))); have n6_ := Aside0.mk (Kd.C_below (by repeat (first | (with_reducible exact HR306.out) | (with_reducible refine Kd.C_alloc ?_ _) | (with_reducible refine Kd.C_drewN ?_ _) | (with_reducible refine Kd.C_drew ?_) | exact HR306.out)) hb); have n7_ := Aside0.mk (Kd.C_below (by repeat (first | (with_reducible exact HR313.out) | (with_reducible refine Kd.C_alloc ?_ _) | (with_reducible refine Kd.C_drewN ?_ _) | (with_reducible refine Kd.C_drew ?_) | exact HR313.out)) hb); have n8_ := Aside0.mk (below_step (by repeat (first | (with_reducible first | exact HB.out | apply below_alloc | apply pw_below_drewN | apply below_drew1) | exact HB.out)) hb); clear HO_5; clear HO_7; clear HO_9; clear HO316; clear HO320; clear HR306; clear HR313; clear HB; have HO_5 := n0_; have HO_7 := n1_; have HO_9 := n2_; have HO316 := n3_; have HO320 := n4_; have HO324 := n5_; have HR306 := n6_; have HR313 := n7_; have HB := n8_; clear n0_ n1_ n2_ n3_ n4_ n5_ n6_ n7_ n8_; (try clear hb); (try clear hb2); (try clear hk); (try clear hi); (try clear ho0)) | ((with_reducible refine gate_callee (f := 9) rfl ?_); refine goesL_ (some 116) rfl rfl Tryd.func9 (by kernel_rfl) rfl #[.slice Ao13 t289.length co13, .string t322] rfl (by (try simp only [List.map_toArray, List.map_cons, List.map_nil]); first | done | rfl | (simp only [List.length_drop, List.length_take]; rfl)) ?_; (with_reducible refine (impl_RingServer.calls _ _ t289 t322 t325 true _ ?side1 ?side2 A35.out).mono ?_); (case side1 => repeat (first | exact (Kd.R_reads' HO_7.out).2.2 | (with_reducible refine Kd.C_alloc ?_ _) | (with_reducible refine Kd.C_drewN ?_ _) | (with_reducible refine Kd.C_drew ?_))); (case side2 => exact (Kd.R_reads' HO_7.out).2.1); rintro e w55 ⟨rfl, hb⟩; refine ⟨_, rfl, ?_⟩; have n0_ := Aside0.mk (Kd.R_below (by (with_reducible repeat (first | apply Kd.R_alloc | apply Kd.R_drewN | apply Kd.R_drew)); exact HO_5.out) hb); have n1_ := Aside0.mk (Kd.R_below (by (with_reducible repeat (first | apply Kd.R_alloc | apply Kd.R_drewN | apply Kd.R_drew)); exact HO_7.out) hb); have n2_ := Aside0.mk (Kd.R_below (by (with_reducible repeat (first | apply Kd.R_alloc | apply Kd.R_drewN | apply Kd.R_drew)); exact HO_9.out) hb); have n3_ := Aside0.mk (Kd.R_below (by (with_reducible repeat (first | apply Kd.R_alloc | apply Kd.R_drewN | apply Kd.R_drew)); exact HO316.out) hb); have n4_ := Aside0.mk (Kd.R_below (by (with_reducible repeat (first | apply Kd.R_alloc | apply Kd.R_drewN | apply Kd.R_drew)); exact HO320.out) hb); have n5_ := Aside0.mk (Kd.R_below (by (with_reducible repeat (first | apply Kd.R_alloc | apply Kd.R_drewN | apply Kd.R_drew)); exact HO324.out) hb); have n6_ := Aside0.mk (Kd.C_below (by repeat (first | (with_reducible exact HR306.out) | (with_reducible refine Kd.C_alloc ?_ _) | (with_reducible refine Kd.C_drewN ?_ _) | (with_reducible refine Kd.C_drew ?_) | exact HR306.out)) hb); have n7_ := Aside0.mk (Kd.C_below (by repeat (first | (with_reducible exact HR313.out) | (with_reducible refine Kd.C_alloc ?_ _) | (with_reducible refine Kd.C_drewN ?_ _) | (with_reducible refine Kd.C_drew ?_) | exact HR313.out)) hb); have n8_ := Aside0.mk (below_step (by repeat (first | (with_reducible first | exact HB.out | apply below_alloc | apply pw_below_drewN | apply below_drew1) | exact HB.out)) hb); clear HO_5; clear HO_7; clear HO_9; clear HO316; clear HO320; clear HO324; clear HR306; clear HR313; clear HB; have HO_5 := n0_; have HO_7 := n1_; have HO_9 := n2_; have HO316 := n3_; have HO320 := n4_; have HO324 := n5_; have HR306 := n6_; have HR313 := n7_; have HB := n8_; clear n0_ n1_ n2_ n3_ n4_ n5_ n6_ n7_ n8_; (try clear hb); (try clear hb2); (try clear hk); (try clear hi); obtain ⟨Ao56, co56, eo56⟩ := Kd.R_slice HO320.out; subst eo56) | ((with_reducible refine gate_callee (f := 9) rfl ?_); refine goesL_ (some 122) rfl rfl Tryd.func9 (by kernel_rfl) rfl #[.slice Ao56 t317.length co56, .string t322] rfl (by (try simp only [List.map_toArray, List.map_cons, List.map_nil]); first | done | rfl | (simp only [List.length_drop, List.length_take]; rfl)) ?_; (with_reducible refine (impl_RingServer.calls _ _ t317 t322 t327 true _ ?side1 ?side2 A36.out).mono ?_); (case side1 => repeat (first | exact (Kd.R_reads' HO320.out).2.2 | (with_reducible refine Kd.C_alloc ?_ _) | (with_reducible refine Kd.C_drewN ?_ _) | (with_reducible refine Kd.C_drew ?_))); (case side2 => exact (Kd.R_reads' HO320.out).2.1); rintro e w57 ⟨rfl, hb⟩; refine ⟨_, rfl, ?_⟩; have n0_ := Aside0.mk (Kd.R_below (by (with_reducible repeat (first | apply Kd.R_alloc | apply Kd.R_drewN | apply Kd.R_drew)); exact HO_5.out) hb); have n1_ := Aside0.mk (Kd.R_below (by (with_reducible repeat (first | apply Kd.R_alloc | apply Kd.R_drewN | apply Kd.R_drew)); exact HO_7.out) hb); have n2_ := Aside0.mk (Kd.R_below (by (with_reducible repeat (first | apply Kd.R_alloc | apply Kd.R_drewN | apply Kd.R_drew)); exact HO_9.out) hb); have n3_ := Aside0.mk (Kd.R_below (by (with_reducible repeat (first | apply Kd.R_alloc | apply Kd.R_drewN | apply Kd.R_drew)); exact HO316.out) hb); have n4_ := Aside0.mk (Kd.R_below (by (with_reducible repeat (first | apply Kd.R_alloc | apply Kd.R_drewN | apply Kd.R_drew)); exact HO320.out) hb); have n5_ := Aside0.mk (Kd.R_below (by (with_reducible repeat (first | apply Kd.R_alloc | apply Kd.R_drewN | apply Kd.R_drew)); exact HO324.out) hb); have n6_ := Aside0.mk (Kd.C_below (by repeat (first | (with_reducible exact HR306.out) | (with_reducible refine Kd.C_alloc ?_ _) | (with_reducible refine Kd.C_drewN ?_ _) | (with_reducible refine Kd.C_drew ?_) | exact HR306.out)) hb); have n7_ := Aside0.mk (Kd.C_below (by repeat (first | (with_reducible exact HR313.out) | (with_reducible refine Kd.C_alloc ?_ _) | (with_reducible refine Kd.C_drewN ?_ _) | (with_reducible refine Kd.C_drew ?_) | exact HR313.out)) hb); have n8_ := Aside0.mk (below_step (by repeat (first | (with_reducible first | exact HB.out | apply below_alloc | apply pw_below_drewN | apply below_drew1) | exact HB.out)) hb); clear HO_5; clear HO_7; clear HO_9; clear HO316; clear HO320; clear HO324; clear HR306; clear HR313; clear HB; have HO_5 := n0_; have HO_7 := n1_; have HO_9 := n2_; have HO316 := n3_; have HO320 := n4_; have HO324 := n5_; have HR306 := n6_; have HR313 := n7_; have HB := n8_; clear n0_ n1_ n2_ n3_ n4_ n5_ n6_ n7_ n8_; (try clear hb); (try clear hb2); (try clear hk); (try clear hi)) | ((with_reducible refine gate_callee (f := 10) rfl ?_); refine goesL_ (some 128) rfl rfl Tryd.func10 (by kernel_rfl) rfl #[.slice Ao13 t289.length co13, .string t322] rfl (by (try simp only [List.map_toArray, List.map_cons, List.map_nil]); first | done | rfl | (simp only [List.length_drop, List.length_take]; rfl)) ?_; (with_reducible refine (spec_RingServer.calls k1 _ _ t289 t322 t329 true _ ?side1 ?side2 A37.out).mono ?_); (case side1 => repeat (first | exact (Kd.R_reads' HO_7.out).2.2 | (with_reducible refine Kd.C_alloc ?_ _) | (with_reducible refine Kd.C_drewN ?_ _) | (with_reducible refine Kd.C_drew ?_))); (case side2 => exact (Kd.R_reads' HO_7.out).2.1); rintro e w58 ⟨rfl, hb⟩; refine ⟨_, rfl, ?_⟩; have n0_ := Aside0.mk (Kd.R_below (by (with_reducible repeat (first | apply Kd.R_alloc | apply Kd.R_drewN | apply Kd.R_drew)); exact HO_5.out) hb); have n1_ := Aside0.mk (Kd.R_below (by (with_reducible repeat (first | apply Kd.R_alloc | apply Kd.R_drewN | apply Kd.R_drew)); exact HO_7.out) hb); have n2_ := Aside0.mk (Kd.R_below (by (with_reducible repeat (first | apply Kd.R_alloc | apply Kd.R_drewN | apply Kd.R_drew)); exact HO_9.out) hb); have n3_ := Aside0.mk (Kd.R_below (by (with_reducible repeat (first | apply Kd.R_alloc | apply Kd.R_drewN | apply Kd.R_drew)); exact HO316.out) hb); have n4_ := Aside0.mk (Kd.R_below (by (with_reducible repeat (first | apply Kd.R_alloc | apply Kd.R_drewN | apply Kd.R_drew)); exact HO320.out) hb); have n5_ := Aside0.mk (Kd.R_below (by (with_reducible repeat (first | apply Kd.R_alloc | apply Kd.R_drewN | apply Kd.R_drew)); exact HO324.out) hb); have n6_ := Aside0.mk (Kd.C_below (by repeat (first | (with_reducible exact HR306.out) | (with_reducible refine Kd.C_alloc ?_ _) | (with_reducible refine Kd.C_drewN ?_ _) | (with_reducible refine Kd.C_drew ?_) | exact HR306.out)) hb); have n7_ := Aside0.mk (Kd.C_below (by repeat (first | (with_reducible exact HR313.out) | (with_reducible refine Kd.C_alloc ?_ _) | (with_reducible refine Kd.C_drewN ?_ _) | (with_reducible refine Kd.C_drew ?_) | exact HR313.out)) hb); have n8_ := Aside0.mk (below_step (by repeat (first | (with_reducible first | exact HB.out | apply below_alloc | apply pw_below_drewN | apply below_drew1) | exact HB.out)) hb); clear HO_5; clear HO_7; clear HO_9; clear HO316; clear HO320; clear HO324; clear HR306; clear HR313; clear HB; have HO_5 := n0_; have HO_7 := n1_; have HO_9 := n2_; have HO316 := n3_; have HO320 := n4_; have HO324 := n5_; have HR306 := n6_; have HR313 := n7_; have HB := n8_; clear n0_ n1_ n2_ n3_ n4_ n5_ n6_ n7_ n8_; (try clear hb); (try clear hb2); (try clear hk); (try clear hi); have p331 : 0 ≤ ((ji25) : Int) := of_decide_eq_true (by first | (with_reducible assumption) | assumption); have q331 : (ji25) < (t285.length : Int) := of_decide_eq_true (by first | (with_reducible assumption) | assumption); obtain ⟨ad331, e331, hx331_0⟩ := Kd.at_int (Kd.R_reads' HO_5.out).2.2 (ji25) p331 q331; cases e331; replace p331 := eq_true p331; replace q331 := eq_true q331; have p332 : 0 ≤ ((ji25) : Int) := of_decide_eq_true (by first | (with_reducible assumption) | assumption); have q332 : (ji25) < (t285.length : Int) := of_decide_eq_true (by first | (with_reducible assumption) | assumption); obtain ⟨ad332, e332, hx332_0⟩ := Kd.at_int (Kd.R_reads' HO_5.out).2.2 (ji25) p332 q332; obtain rfl : ad331 = ad332 := (by injection e332); replace p332 := eq_true p332; replace q332 := eq_true q332))
                                              go_ret
                                              exact ⟨by first | rfl | (simp [errW_none, errW_some] <;> rfl) | (simp only [← hji25, ← hji29]; first | rfl | (simp [errW_none, errW_some] <;> rfl)) | (simp [*, errW_none, errW_some] <;> rfl), by repeat (first | (with_reducible first | exact HB.out | apply below_alloc | apply pw_below_drewN | apply below_drew1) | exact HB.out)⟩
                                            · rw [if_neg c44] at H
                                              have c44b0 : (t325 == (rd t285 (ji25))) = false := beq_eq_false_iff_ne.mpr c44
                                              have c44b1 : (t325 != (rd t285 (ji25))) = true := bne_iff_ne.mpr c44
                                              by_cases c59 : t327 = t325
                                              · rw [if_pos c59] at H
                                                have c59b0 : (t327 == t325) = true := beq_iff_eq.mpr c59
                                                have c59b1 : (t327 != t325) = false := bne_eq_false_iff_eq.mpr c59
                                                clear c59
                                                obtain rfl := Option.some.inj H
                                                try go_wp2_with (first | ((with_reducible refine gate_callee (f := 7) rfl ?_); refine goesL_ (some 88) rfl rfl Tryd.func7 (by kernel_rfl) rfl #[.slice A1 l1.length c1] rfl (by (try simp only [List.map_toArray, List.map_cons, List.map_nil]); first | done | rfl | (simp only [List.length_drop, List.length_take]; rfl)) ?_; (with_reducible refine (laws_numberOf.calls k1 _ _ l1 t299 _ ?side1 ?side2 A23.out).mono ?_); (case side1 => repeat (first | exact (Kd.C_below HR1.out HB.out) | (with_reducible refine Kd.C_alloc ?_ _) | (with_reducible refine Kd.C_drewN ?_ _) | (with_reducible refine Kd.C_drew ?_))); (case side2 => exact HC1.out); rintro e w' ⟨rfl, ⟨nd, rfl⟩⟩; refine ⟨_, rfl, ?_⟩))
                                                (try (rw [drewN_self wr]; generalize hq_ : World.drewN wr _ = wr; have n0_ : Aside0 (Kd.R (Kd.int .i64) 3 wr w.heap.size (fun _ => True) (.slice Ao10 t285.length co10) t285) := ⟨by rw [← hq_]; exact (by (with_reducible repeat (first | apply Kd.R_alloc | apply Kd.R_drewN | apply Kd.R_drew)); exact HO_5.out)⟩; have n1_ : Aside0 (Kd.R k31 31 wr w.heap.size (fun k_ => some k_ ≠ (.slice Ao14 t293.length co14 : Value).ownBlock) (.slice Ao13 t289.length co13) t289) := ⟨by rw [← hq_]; exact (by (with_reducible repeat (first | apply Kd.R_alloc | apply Kd.R_drewN | apply Kd.R_drew)); exact HO_7.out)⟩; have n2_ : Aside0 (Kd.R k31 31 wr w.heap.size (fun k_ => some k_ ≠ (.slice Ao13 t289.length co13 : Value).ownBlock) (.slice Ao14 t293.length co14) t293) := ⟨by rw [← hq_]; exact (by (with_reducible repeat (first | apply Kd.R_alloc | apply Kd.R_drewN | apply Kd.R_drew)); exact HO_9.out)⟩; have n3_ : Aside0 (Below w.heap.size w wr) := ⟨by rw [← hq_]; exact (by repeat (first | (with_reducible first | exact HB.out | apply below_alloc | apply pw_below_drewN | apply below_drew1) | exact HB.out))⟩; clear HO_5 HO_7 HO_9 HB hq_; have HO_5 := n0_; have HO_7 := n1_; have HO_9 := n2_; have HB := n3_; clear n0_ n1_ n2_ n3_))
                                                have n0_ := Aside0.mk (Kd.R_drew HO_5.out)
                                                have n1_ := Aside0.mk (Kd.R_drew HO_7.out)
                                                have n2_ := Aside0.mk (Kd.R_drew HO_9.out)
                                                have n3_ := Aside0.mk (below_drew1 HB.out)
                                                clear HO_5
                                                clear HO_7
                                                clear HO_9
                                                clear HB
                                                have HO_5 := n0_
                                                have HO_7 := n1_
                                                have HO_9 := n2_
                                                have HB := n3_
                                                clear n0_ n1_ n2_ n3_
                                                have q61 : ((ji25) : Int) ≤ ((t285.length : Int) : Int) := of_decide_eq_true (by first | (with_reducible assumption) | assumption)
                                                obtain ⟨i061, hi061, _, hsz61, _⟩ := info_parts info3
                                                have hroom61 : t285.length ≤ co10 := (Kd.R_reads' HO_5.out).2.1
                                                have hC61 : Kd.C (Kd.int .i64) _ Ao10 t285.length t285 := (Kd.R_reads' HO_5.out).2.2
                                                have hcut61 := cut_to (P := Tryd.prog) 23 3 .i64 Tryd.underlying23 hi061 Ao10 t285.length co10 (ji25) (of_decide_eq_true (by first | (with_reducible assumption) | assumption)) q61 hroom61
                                                have hr61 := Kd.C_take (m := ((ji25) : Int).toNat) hC61 (by omega)
                                                have hy61 : y303.length = ((ji25) : Int).toNat := (by rw [Ny303.out, List.length_take]; omega)
                                                rw [← Ny303.out] at hr61
                                                rw [← hy61] at hcut61
                                                have HR306 := Aside0.mk hr61
                                                have HC306 := Aside0.mk (show y303.length ≤ co10 from by omega)
                                                clear hr61 hC61 hroom61 hi061 hsz61
                                                have KY61 := Aside0.mk hy61
                                                clear hy61
                                                have KL61 := Aside0.mk (show ((ji25) : Int).toNat ≤ t285.length from by omega)
                                                replace q61 := eq_true q61
                                                have q62 : ((ji29) : Int) ≤ ((t285.length : Int) : Int) := of_decide_eq_true (by first | (with_reducible assumption) | assumption)
                                                obtain ⟨i062, hi062, _, hsz62, _⟩ := info_parts info3
                                                have hroom62 : t285.length ≤ co10 := (Kd.R_reads' HO_5.out).2.1
                                                have hC62 : Kd.C (Kd.int .i64) _ Ao10 t285.length t285 := (Kd.R_reads' HO_5.out).2.2
                                                have q062 : (0 : Int) ≤ ((ji29) : Int) := of_decide_eq_true (by first | (with_reducible assumption) | assumption)
                                                have hcut62 := cut_from (P := Tryd.prog) 23 3 .i64 Tryd.underlying23 hi062 1 hsz62 Ao10 t285.length co10 (ji29) q062 q62
                                                have hr62 := Kd.C_drop (m := ((ji29) : Int).toNat) (c := co10) hC62 (by omega) hroom62
                                                obtain ⟨A62, hA62⟩ : ∃ A1, A1 = (if co10 = ((ji29) : Int).toNat then Ao10 else (Ao10 : Option Addr).map (·.add (((ji29) : Int).toNat * 1))) := ⟨_, rfl⟩
                                                obtain ⟨c62, hc62⟩ : ∃ c1, c1 = co10 - ((ji29) : Int).toNat := ⟨_, rfl⟩
                                                have hy62 : y310.length = t285.length - ((ji29) : Int).toNat := (by rw [Ny310.out, List.length_drop] <;> omega)
                                                rw [show (t285).drop ((ji29) : Int).toNat = y310 from Ny310.out.symm] at hr62
                                                replace hr62 : Kd.C (Kd.int .i64) _ A62 y310.length y310 := (by rw [hA62]; exact hr62)
                                                rw [← hy62, ← hA62, ← hc62] at hcut62
                                                have HR313 := Aside0.mk hr62
                                                have HC313 := Aside0.mk (show y310.length ≤ c62 from by rw [hy62, hc62]; exact Nat.sub_le_sub_right hroom62 _)
                                                clear hr62 hC62 hroom62 hi062 hsz62 hc62
                                                have KY62 := Aside0.mk hy62
                                                have KA62 := Aside0.mk hA62
                                                clear hy62 hA62
                                                have KL62 := Aside0.mk (show ((ji29) : Int).toNat ≤ t285.length from by omega)
                                                replace q62 := eq_true q62
                                                refine start_ (n := 11) (S := fun w' => True) (ds := []) #[false, false, false, false, false, false, false, false, false, false, false] (by kernel_rfl) rfl rfl trivial (fun hHeld => ?_); refine with_tabW laws_FnRing.tab19 laws_FnRing.bits19 (fun HT_ HW_ => ?_)
                                                generalize wr.drew = w60 at HO_5 HO_7 HO_9 HB HR306 HR313 hHeld ⊢
                                                refine pure_ (i := 1) (N := some 93) (v := ?_) (a' := ?_) #[false, true, false, false, false, false, false, false, false, false, false] rfl rfl (any_of HT_.out (by kernel_rfl)) (fun _ _ _ h => h) (Or.inl ⟨by rfl, ?_⟩) ?_ ?_
                                                rotate_left
                                                · intro w'
                                                  go_simp
                                                  with_reducible rfl
                                                rotate_left
                                                · simp only [Act.put, List.setIfInBounds_toArray, List.set_cons_zero, List.set_cons_succ, i64_w, i32_w]
                                                  rfl
                                                refine pure_ (i := 2) (N := some 94) (v := ?_) (a' := ?_) #[false, true, true, false, false, false, false, false, false, false, false] rfl rfl (any_of HT_.out (by kernel_rfl)) (fun _ _ _ h => h) (Or.inl ⟨by rfl, ?_⟩) ?_ ?_
                                                rotate_left
                                                · intro w'
                                                  go_simp
                                                  with_reducible rfl
                                                rotate_left
                                                · simp only [Act.put, List.setIfInBounds_toArray, List.set_cons_zero, List.set_cons_succ, i64_w, i32_w]
                                                  rfl
                                                refine pure_ (i := 3) (N := some 95) (v := ?_) (a' := ?_) #[false, true, true, true, false, false, false, false, false, false, false] rfl rfl (any_of HT_.out (by kernel_rfl)) (fun _ _ _ h => h) (Or.inl ⟨by rfl, ?_⟩) ?_ ?_
                                                rotate_left
                                                · intro w'
                                                  go_simp
                                                  with_reducible rfl
                                                rotate_left
                                                · simp only [Act.put, List.setIfInBounds_toArray, List.set_cons_zero, List.set_cons_succ, i64_w, i32_w]
                                                  rfl
                                                refine pure_ (i := 5) (N := some 97) (v := ?_) (a' := ?_) #[false, true, true, true, false, true, false, false, false, false, false] rfl rfl (any_of HT_.out (by kernel_rfl)) (fun _ _ _ h => h) (Or.inl ⟨by rfl, ?_⟩) ?_ ?_
                                                rotate_left
                                                · intro w'
                                                  go_simp
                                                  with_reducible rfl
                                                rotate_left
                                                · simp only [Act.put, List.setIfInBounds_toArray, List.set_cons_zero, List.set_cons_succ, i64_w, i32_w]
                                                  rfl
                                                refine pure_ (i := 6) (N := some 98) (v := ?_) (a' := ?_) #[false, true, true, true, false, true, true, false, false, false, false] rfl rfl (any_of HT_.out (by kernel_rfl)) (fun _ _ _ h => h) (Or.inl ⟨by rfl, ?_⟩) ?_ ?_
                                                rotate_left
                                                · intro w'
                                                  go_simp
                                                  with_reducible rfl
                                                rotate_left
                                                · simp only [Act.put, List.setIfInBounds_toArray, List.set_cons_zero, List.set_cons_succ, i64_w, i32_w]
                                                  rfl
                                                refine pure_ (i := 7) (N := some 99) (v := ?_) (a' := ?_) #[false, true, true, true, false, true, true, true, false, false, false] rfl rfl (any_of HT_.out (by kernel_rfl)) (fun _ _ _ h => h) (Or.inl ⟨by rfl, ?_⟩) ?_ ?_
                                                rotate_left
                                                · intro w'
                                                  go_simp
                                                  with_reducible rfl
                                                rotate_left
                                                · simp only [Act.put, List.setIfInBounds_toArray, List.set_cons_zero, List.set_cons_succ, i64_w, i32_w]
                                                  rfl
                                                refine pure_ (i := 8) (N := some 100) (v := ?_) (a' := ?_) #[false, true, true, true, false, true, true, true, true, false, false] rfl rfl (any_of HT_.out (by kernel_rfl)) (fun _ _ _ h => h) (Or.inl ⟨by rfl, ?_⟩) ?_ ?_
                                                rotate_left
                                                · intro w'
                                                  go_simp
                                                  with_reducible rfl
                                                rotate_left
                                                · simp only [Act.put, List.setIfInBounds_toArray, List.set_cons_zero, List.set_cons_succ, i64_w, i32_w]
                                                  rfl
                                                refine one_ (i := 0) (N := some 92) #[true, true, true, true, false, true, true, true, true, false, false] rfl rfl (one_of HT_.out (by kernel_rfl)) (by decide) (fun K hK => ?_)
                                                refine Kd.R_lit_step (Kd.int .i64) _ 3 ?hg (N := 92) ?hd (xs := ([] : List Int)) (inner := []) (ok := fun _ => True) (okp := fun _ => True) ?hr ?hp (fun _ hk => hk) trivial (Below.refl _ _) (Nat.le_refl _) (by simp) ?_; (case hd => rfl); (case hg => rfl); (case hr => first | (go_simp; done) | (go_simp; rfl)); (case hp => exact (Reps.none _ _))
                                                intro v301 w63 ho64 hb hg_ hnew_
                                                clear hg_ hnew_
                                                (first | rw [← Ny300.out] at ho64 | (simp only [Int.reduceToNat] at ho64; rw [← Ny300.out] at ho64))
                                                have n0_ := Aside0.mk (Kd.R_elder' (by (with_reducible repeat (first | apply Kd.R_alloc | apply Kd.R_drewN | apply Kd.R_drew)); exact HO_5.out) (Kd.R_base ho64) hb)
                                                have n1_ := Aside0.mk (Kd.R_below (by (with_reducible repeat (first | apply Kd.R_alloc | apply Kd.R_drewN | apply Kd.R_drew)); exact HO_7.out) hb)
                                                have n2_ := Aside0.mk (Kd.R_below (by (with_reducible repeat (first | apply Kd.R_alloc | apply Kd.R_drewN | apply Kd.R_drew)); exact HO_9.out) hb)
                                                have n3_ := Aside0.mk (Kd.R_lower (Kd.R_new' ho64 (Kd.R_lt (by (with_reducible repeat (first | apply Kd.R_alloc | apply Kd.R_drewN | apply Kd.R_drew)); exact HO_5.out))) (below_size (by repeat (first | (with_reducible first | exact HB.out | apply below_alloc | apply pw_below_drewN | apply below_drew1) | exact HB.out))))
                                                have n4_ := Aside0.mk (Kd.C_below (by repeat (first | (with_reducible exact HR306.out) | (with_reducible refine Kd.C_alloc ?_ _) | (with_reducible refine Kd.C_drewN ?_ _) | (with_reducible refine Kd.C_drew ?_) | exact HR306.out)) hb)
                                                have n5_ := Aside0.mk (Kd.C_below (by repeat (first | (with_reducible exact HR313.out) | (with_reducible refine Kd.C_alloc ?_ _) | (with_reducible refine Kd.C_drewN ?_ _) | (with_reducible refine Kd.C_drew ?_) | exact HR313.out)) hb)
                                                have n6_ := Aside0.mk (below_step (by repeat (first | (with_reducible first | exact HB.out | apply below_alloc | apply pw_below_drewN | apply below_drew1) | exact HB.out)) hb)
                                                clear HO_5
                                                clear HO_7
                                                clear HO_9
                                                clear HR306
                                                clear HR313
                                                clear HB
                                                have HO_5 := n0_
                                                have HO_7 := n1_
                                                have HO_9 := n2_
                                                have HO302 := n3_
                                                have HR306 := n4_
                                                have HR313 := n5_
                                                have HB := n6_
                                                clear n0_ n1_ n2_ n3_ n4_ n5_ n6_
                                                clear hb ho64
                                                refine hK.out _ _ trivial (fun hHeld => ?_)
                                                clear hK K
                                                refine norm_ (a' := ?_) ?_ ?_
                                                rotate_left
                                                · show Act.put _ (some 92) _ = _
                                                  simp only [Act.put, List.setIfInBounds_toArray, List.set_cons_zero, List.set_cons_succ, i64_w, i32_w]
                                                  rfl
                                                refine one_ (i := 4) (N := some 96) #[true, true, true, true, true, true, true, true, true, false, false] rfl rfl (one_of HT_.out (by kernel_rfl)) (by decide) (fun K hK => ?_)
                                                refine Kd.R_append_rows_step (Kd.int .i64) (w0 := w) w.heap.size (by rfl) (.tmp 92) (.tmp 95) 23 3 (.int .i64 0) 8 rfl Tryd.underlying23 info3 rfl (by decide) (by omega) v301 y300 y303 _ _ _ (fun k_ => some k_ ≠ (.slice Ao10 t285.length co10 : Value).ownBlock) (fun _ => False) rfl rfl ?aO ?aR (fun _ _ h => h) (fun _ h => h.elim) ?aF ?aB ?aS ?aL ?_
                                                (case aR => repeat (first | exact (by repeat (first | (with_reducible exact HR306.out) | (with_reducible refine Kd.C_alloc ?_ _) | (with_reducible refine Kd.C_drewN ?_ _) | (with_reducible refine Kd.C_drew ?_) | exact HR306.out)) | (with_reducible refine Kd.C_alloc ?_ _) | (with_reducible refine Kd.C_drewN ?_ _) | (with_reducible refine Kd.C_drew ?_)))
                                                (case aB => exact (by repeat (first | (with_reducible first | exact HB.out | apply below_alloc | apply pw_below_drewN | apply below_drew1) | exact HB.out)))
                                                (case aF => exact (fun k_ hk => Kd.fresh' (Kd.R_lt (by (with_reducible repeat (first | apply Kd.R_alloc | apply Kd.R_drewN | apply Kd.R_drew)); exact HO_5.out)) k_ hk))
                                                (case aO => exact (by (with_reducible repeat (first | apply Kd.R_alloc | apply Kd.R_drewN | apply Kd.R_drew)); exact Kd.R_mono HO302.out (fun _ hk => hk.2)))
                                                (case aS => exact (below_size (by repeat (first | (with_reducible first | exact HB.out | apply below_alloc | apply pw_below_drewN | apply below_drew1) | exact HB.out))))
                                                (case aL => have := LMc28.out; omega)
                                                intro v308 w65 ho hb hg hat
                                                rw [← Ny307.out] at ho
                                                have n0_ := Aside0.mk (Kd.R_after (ok := (fun _ => True)) (by (with_reducible repeat (first | apply Kd.R_alloc | apply Kd.R_drewN | apply Kd.R_drew)); exact HO_5.out) hg hat)
                                                have n1_ := Aside0.mk (Kd.R_over' (by (with_reducible repeat (first | apply Kd.R_alloc | apply Kd.R_drewN | apply Kd.R_drew)); exact HO_7.out) (Kd.R_typed (by (with_reducible repeat (first | apply Kd.R_alloc | apply Kd.R_drewN | apply Kd.R_drew)); exact HO302.out)) (by decide) hg)
                                                have n2_ := Aside0.mk (Kd.R_over' (by (with_reducible repeat (first | apply Kd.R_alloc | apply Kd.R_drewN | apply Kd.R_drew)); exact HO_9.out) (Kd.R_typed (by (with_reducible repeat (first | apply Kd.R_alloc | apply Kd.R_drewN | apply Kd.R_drew)); exact HO302.out)) (by decide) hg)
                                                have n3_ := Aside0.mk (hb)
                                                have n4_ := Aside0.mk ((show Kd.C (Kd.int .i64) w65 Ao10 y303.length y303 from by rw [Ny303.out]; exact Kd.C_take (m := ((ji25) : Int).toNat) ((Kd.R_reads' (Kd.R_after (ok := (fun _ => True)) (by (with_reducible repeat (first | apply Kd.R_alloc | apply Kd.R_drewN | apply Kd.R_drew)); exact HO_5.out) hg hat)).2.2) KL61.out))
                                                have n5_ := Aside0.mk ((show Kd.C (Kd.int .i64) w65 A62 y310.length y310 from by rw [Ny310.out, KA62.out]; exact Kd.C_drop (m := ((ji29) : Int).toNat) (c := co10) ((Kd.R_reads' (Kd.R_after (ok := (fun _ => True)) (by (with_reducible repeat (first | apply Kd.R_alloc | apply Kd.R_drewN | apply Kd.R_drew)); exact HO_5.out) hg hat)).2.2) KL62.out ((Kd.R_reads' (Kd.R_after (ok := (fun _ => True)) (by (with_reducible repeat (first | apply Kd.R_alloc | apply Kd.R_drewN | apply Kd.R_drew)); exact HO_5.out) hg hat)).2.1)))
                                                have n6_ := Aside0.mk (ho)
                                                clear HO_5
                                                clear HO_7
                                                clear HO_9
                                                clear HB
                                                clear HR306
                                                clear HR313
                                                clear HO302
                                                have HO_5 := n0_
                                                have HO_7 := n1_
                                                have HO_9 := n2_
                                                have HB := n3_
                                                have HR306 := n4_
                                                have HR313 := n5_
                                                have HO309 := n6_
                                                clear n0_ n1_ n2_ n3_ n4_ n5_ n6_
                                                clear ho hb hg hat
                                                refine hK.out _ _ trivial (fun hHeld => ?_)
                                                clear hK K
                                                refine norm_ (a' := ?_) ?_ ?_
                                                rotate_left
                                                · show Act.put _ (some 96) _ = _
                                                  simp only [Act.put, List.setIfInBounds_toArray, List.set_cons_zero, List.set_cons_succ, i64_w, i32_w]
                                                  rfl
                                                refine one_ (i := 9) (N := some 101) #[true, true, true, true, true, true, true, true, true, true, false] rfl rfl (one_of HT_.out (by kernel_rfl)) (by decide) (fun K hK => ?_)
                                                refine Kd.R_append_rows_step (Kd.int .i64) (w0 := w) w.heap.size (by rfl) (.tmp 96) (.tmp 100) 23 3 (.int .i64 0) 8 rfl Tryd.underlying23 info3 rfl (by decide) (by omega) v308 y307 y310 _ _ _ (fun k_ => some k_ ≠ (.slice Ao10 t285.length co10 : Value).ownBlock) (fun _ => False) rfl rfl ?aO ?aR (fun _ _ h => h) (fun _ h => h.elim) ?aF ?aB ?aS ?aL ?_
                                                (case aR => repeat (first | exact (by repeat (first | (with_reducible exact HR313.out) | (with_reducible refine Kd.C_alloc ?_ _) | (with_reducible refine Kd.C_drewN ?_ _) | (with_reducible refine Kd.C_drew ?_) | exact HR313.out)) | (with_reducible refine Kd.C_alloc ?_ _) | (with_reducible refine Kd.C_drewN ?_ _) | (with_reducible refine Kd.C_drew ?_)))
                                                (case aB => exact (by repeat (first | (with_reducible first | exact HB.out | apply below_alloc | apply pw_below_drewN | apply below_drew1) | exact HB.out)))
                                                (case aF => exact (fun k_ hk => Kd.fresh' (Kd.R_lt (by (with_reducible repeat (first | apply Kd.R_alloc | apply Kd.R_drewN | apply Kd.R_drew)); exact HO_5.out)) k_ hk))
                                                (case aO => exact (by (with_reducible repeat (first | apply Kd.R_alloc | apply Kd.R_drewN | apply Kd.R_drew)); exact HO309.out))
                                                (case aS => exact (below_size (by repeat (first | (with_reducible first | exact HB.out | apply below_alloc | apply pw_below_drewN | apply below_drew1) | exact HB.out))))
                                                (case aL => have := LMc32.out; omega)
                                                intro v315 w66 ho hb hg hat
                                                rw [← Ny314.out] at ho
                                                have n0_ := Aside0.mk (Kd.R_after (ok := (fun _ => True)) (by (with_reducible repeat (first | apply Kd.R_alloc | apply Kd.R_drewN | apply Kd.R_drew)); exact HO_5.out) hg hat)
                                                have n1_ := Aside0.mk (Kd.R_over' (by (with_reducible repeat (first | apply Kd.R_alloc | apply Kd.R_drewN | apply Kd.R_drew)); exact HO_7.out) (Kd.R_typed (by (with_reducible repeat (first | apply Kd.R_alloc | apply Kd.R_drewN | apply Kd.R_drew)); exact HO309.out)) (by decide) hg)
                                                have n2_ := Aside0.mk (Kd.R_over' (by (with_reducible repeat (first | apply Kd.R_alloc | apply Kd.R_drewN | apply Kd.R_drew)); exact HO_9.out) (Kd.R_typed (by (with_reducible repeat (first | apply Kd.R_alloc | apply Kd.R_drewN | apply Kd.R_drew)); exact HO309.out)) (by decide) hg)
                                                have n3_ := Aside0.mk (hb)
                                                have n4_ := Aside0.mk ((show Kd.C (Kd.int .i64) w66 Ao10 y303.length y303 from by rw [Ny303.out]; exact Kd.C_take (m := ((ji25) : Int).toNat) ((Kd.R_reads' (Kd.R_after (ok := (fun _ => True)) (by (with_reducible repeat (first | apply Kd.R_alloc | apply Kd.R_drewN | apply Kd.R_drew)); exact HO_5.out) hg hat)).2.2) KL61.out))
                                                have n5_ := Aside0.mk ((show Kd.C (Kd.int .i64) w66 A62 y310.length y310 from by rw [Ny310.out, KA62.out]; exact Kd.C_drop (m := ((ji29) : Int).toNat) (c := co10) ((Kd.R_reads' (Kd.R_after (ok := (fun _ => True)) (by (with_reducible repeat (first | apply Kd.R_alloc | apply Kd.R_drewN | apply Kd.R_drew)); exact HO_5.out) hg hat)).2.2) KL62.out ((Kd.R_reads' (Kd.R_after (ok := (fun _ => True)) (by (with_reducible repeat (first | apply Kd.R_alloc | apply Kd.R_drewN | apply Kd.R_drew)); exact HO_5.out) hg hat)).2.1)))
                                                have n6_ := Aside0.mk (ho)
                                                clear HO_5
                                                clear HO_7
                                                clear HO_9
                                                clear HB
                                                clear HR306
                                                clear HR313
                                                clear HO309
                                                have HO_5 := n0_
                                                have HO_7 := n1_
                                                have HO_9 := n2_
                                                have HB := n3_
                                                have HR306 := n4_
                                                have HR313 := n5_
                                                have HO316 := n6_
                                                clear n0_ n1_ n2_ n3_ n4_ n5_ n6_
                                                clear ho hb hg hat
                                                refine hK.out _ _ trivial (fun hHeld => ?_)
                                                clear hK K
                                                refine norm_ (a' := ?_) ?_ ?_
                                                rotate_left
                                                · show Act.put _ (some 101) _ = _
                                                  simp only [Act.put, List.setIfInBounds_toArray, List.set_cons_zero, List.set_cons_succ, i64_w, i32_w]
                                                  rfl
                                                refine pure_ (i := 10) (N := some 13) (v := ?_) (a' := ?_) #[true, true, true, true, true, true, true, true, true, true, true] rfl rfl (any_of HT_.out (by kernel_rfl)) (fun _ _ _ h => h) (Or.inl ⟨by rfl, ?_⟩) ?_ ?_
                                                rotate_left
                                                · intro w'
                                                  go_simp
                                                  with_reducible rfl
                                                rotate_left
                                                · simp only [Act.put, List.setIfInBounds_toArray, List.set_cons_zero, List.set_cons_succ, i64_w, i32_w]
                                                  rfl
                                                refine done_ (done_of HT_.out (by kernel_rfl)) ?_
                                                obtain ⟨Ao67, co67, eo67⟩ := Kd.R_slice HO316.out
                                                subst eo67
                                                try go_wp2_with (first | ((with_reducible refine gate_callee (f := 5) rfl ?_); refine goesL_ (some 105) rfl rfl Tryd.func5 (by kernel_rfl) rfl #[.slice Ao67 y314.length co67, .int .i64 t286] rfl (by (try simp only [List.map_toArray, List.map_cons, List.map_nil]); first | done | rfl | (simp only [List.length_drop, List.length_take]; rfl)) ?_; (with_reducible refine (impl_RingOf.calls k1 _ _ y314 t286 t317 true _ ?side1 ?side2 A33.out).mono ?_); (case side1 => repeat (first | exact (Kd.R_reads' HO316.out).2.2 | (with_reducible refine Kd.C_alloc ?_ _) | (with_reducible refine Kd.C_drewN ?_ _) | (with_reducible refine Kd.C_drew ?_))); (case side2 => exact (Kd.R_reads' HO316.out).2.1); rintro e w68 ⟨v319, rfl, ho0, hb⟩; refine ⟨_, rfl, ?_⟩; have n0_ := Aside0.mk (Kd.R_below (by (with_reducible repeat (first | apply Kd.R_alloc | apply Kd.R_drewN | apply Kd.R_drew)); exact HO_5.out) hb); have n1_ := Aside0.mk (Kd.R_elder' (by (with_reducible repeat (first | apply Kd.R_alloc | apply Kd.R_drewN | apply Kd.R_drew)); exact HO_7.out) (Kd.R_base ho0) hb); have n2_ := Aside0.mk (Kd.R_elder' (by (with_reducible repeat (first | apply Kd.R_alloc | apply Kd.R_drewN | apply Kd.R_drew)); exact HO_9.out) (Kd.R_base ho0) hb); have n3_ := Aside0.mk (Kd.R_below (by (with_reducible repeat (first | apply Kd.R_alloc | apply Kd.R_drewN | apply Kd.R_drew)); exact HO316.out) hb); have n4_ := Aside0.mk (Kd.R_lower (Kd.R_new' (Kd.R_new' ho0 (Kd.R_lt (by (with_reducible repeat (first | apply Kd.R_alloc | apply Kd.R_drewN | apply Kd.R_drew)); exact HO_7.out))) (Kd.R_lt (by (with_reducible repeat (first | apply Kd.R_alloc | apply Kd.R_drewN | apply Kd.R_drew)); exact HO_9.out))) (below_size (by repeat (first | (with_reducible first | exact HB.out | apply below_alloc | apply pw_below_drewN | apply below_drew1) | exact HB.out)))); have n5_ := Aside0.mk (Kd.C_below (by repeat (first | (with_reducible exact HR306.out) | (with_reducible refine Kd.C_alloc ?_ _) | (with_reducible refine Kd.C_drewN ?_ _) | (with_reducible refine Kd.C_drew ?_) | exact HR306.out)) hb); have n6_ := Aside0.mk (Kd.C_below (by repeat (first | (with_reducible exact HR313.out) | (with_reducible refine Kd.C_alloc ?_ _) | (with_reducible refine Kd.C_drewN ?_ _) | (with_reducible refine Kd.C_drew ?_) | exact HR313.out)) hb); have n7_ := Aside0.mk (below_step (by repeat (first | (with_reducible first | exact HB.out | apply below_alloc | apply pw_below_drewN | apply below_drew1) | exact HB.out)) hb); clear HO_5; clear HO_7; clear HO_9; clear HO316; clear HR306; clear HR313; clear HB; have HO_5 := n0_; have HO_7 := n1_; have HO_9 := n2_; have HO316 := n3_; have HO320 := n4_; have HR306 := n5_; have HR313 := n6_; have HB := n7_; clear n0_ n1_ n2_ n3_ n4_ n5_ n6_ n7_; (try clear hb); (try clear hb2); (try clear hk); (try clear hi); (try clear ho0)) | ((with_reducible refine gate_callee (f := 8) rfl ?_); refine goesL_ (some 110) rfl rfl Tryd.func8 (by kernel_rfl) rfl #[.slice A1 l1.length c1] rfl (by (try simp only [List.map_toArray, List.map_cons, List.map_nil]); first | done | rfl | (simp only [List.length_drop, List.length_take]; rfl)) ?_; (with_reducible refine (spec_DrawRingServer.calls k1 _ _ l1 t321 t322 _ ?side1 ?side2 A34.out).mono ?_); (case side1 => repeat (first | exact (Kd.C_below HR1.out HB.out) | (with_reducible refine Kd.C_alloc ?_ _) | (with_reducible refine Kd.C_drewN ?_ _) | (with_reducible refine Kd.C_drew ?_))); (case side2 => exact HC1.out); rintro e w69 ⟨v323, rfl, ho0, hb⟩; refine ⟨_, rfl, ?_⟩; have n0_ := Aside0.mk (Kd.R_below (by (with_reducible repeat (first | apply Kd.R_alloc | apply Kd.R_drewN | apply Kd.R_drew)); exact HO_5.out) hb); have n1_ := Aside0.mk (Kd.R_elder' (by (with_reducible repeat (first | apply Kd.R_alloc | apply Kd.R_drewN | apply Kd.R_drew)); exact HO_7.out) (Kd.R_base ho0) hb); have n2_ := Aside0.mk (Kd.R_elder' (by (with_reducible repeat (first | apply Kd.R_alloc | apply Kd.R_drewN | apply Kd.R_drew)); exact HO_9.out) (Kd.R_base ho0) hb); have n3_ := Aside0.mk (Kd.R_below (by (with_reducible repeat (first | apply Kd.R_alloc | apply Kd.R_drewN | apply Kd.R_drew)); exact HO316.out) hb); have n4_ := Aside0.mk (Kd.R_elder' (by (with_reducible repeat (first | apply Kd.R_alloc | apply Kd.R_drewN | apply Kd.R_drew)); exact HO320.out) (Kd.R_base ho0) hb); have n5_ := Aside0.mk (Kd.R_lower (Kd.R_new' (Kd.R_new' (Kd.R_new' ho0 (Kd.R_lt (by (with_reducible repeat (first | apply Kd.R_alloc | apply Kd.R_drewN | apply Kd.R_drew)); exact HO_7.out))) (Kd.R_lt (by (with_reducible repeat (first | apply Kd.R_alloc | apply Kd.R_drewN | apply Kd.R_drew)); exact HO_9.out))) (Kd.R_lt (by (with_reducible repeat (first | apply Kd.R_alloc | apply Kd.R_drewN | apply Kd.R_drew)); exact HO320.out))) (below_size (by repeat (first | (with_reducible first | exact HB.out | apply below_alloc | apply pw_below_drewN | apply below_drew1) | exact HB.out)))); have n6_ := Aside0.mk (Kd.C_below (by repeat (first | (with_reducible exact HR306.out) | (with_reducible refine Kd.C_alloc ?_ _) | (with_reducible refine Kd.C_drewN ?_ _) | (with_reducible refine Kd.C_drew ?_) | exact HR306.out)) hb); have n7_ := Aside0.mk (Kd.C_below (by repeat (first | (with_reducible exact HR313.out) | (with_reducible refine Kd.C_alloc ?_ _) | (with_reducible refine Kd.C_drewN ?_ _) | (with_reducible refine Kd.C_drew ?_) | exact HR313.out)) hb); have n8_ := Aside0.mk (below_step (by repeat (first | (with_reducible first | exact HB.out | apply below_alloc | apply pw_below_drewN | apply below_drew1) | exact HB.out)) hb); clear HO_5; clear HO_7; clear HO_9; clear HO316; clear HO320; clear HR306; clear HR313; clear HB; have HO_5 := n0_; have HO_7 := n1_; have HO_9 := n2_; have HO316 := n3_; have HO320 := n4_; have HO324 := n5_; have HR306 := n6_; have HR313 := n7_; have HB := n8_; clear n0_ n1_ n2_ n3_ n4_ n5_ n6_ n7_ n8_; (try clear hb); (try clear hb2); (try clear hk); (try clear hi); (try clear ho0)) | ((with_reducible refine gate_callee (f := 9) rfl ?_); refine goesL_ (some 116) rfl rfl Tryd.func9 (by kernel_rfl) rfl #[.slice Ao13 t289.length co13, .string t322] rfl (by (try simp only [List.map_toArray, List.map_cons, List.map_nil]); first | done | rfl | (simp only [List.length_drop, List.length_take]; rfl)) ?_; (with_reducible refine (impl_RingServer.calls _ _ t289 t322 t325 true _ ?side1 ?side2 A35.out).mono ?_); (case side1 => repeat (first | exact (Kd.R_reads' HO_7.out).2.2 | (with_reducible refine Kd.C_alloc ?_ _) | (with_reducible refine Kd.C_drewN ?_ _) | (with_reducible refine Kd.C_drew ?_))); (case side2 => exact (Kd.R_reads' HO_7.out).2.1); rintro e w70 ⟨rfl, hb⟩; refine ⟨_, rfl, ?_⟩; have n0_ := Aside0.mk (Kd.R_below (by (with_reducible repeat (first | apply Kd.R_alloc | apply Kd.R_drewN | apply Kd.R_drew)); exact HO_5.out) hb); have n1_ := Aside0.mk (Kd.R_below (by (with_reducible repeat (first | apply Kd.R_alloc | apply Kd.R_drewN | apply Kd.R_drew)); exact HO_7.out) hb); have n2_ := Aside0.mk (Kd.R_below (by (with_reducible repeat (first | apply Kd.R_alloc | apply Kd.R_drewN | apply Kd.R_drew)); exact HO_9.out) hb); have n3_ := Aside0.mk (Kd.R_below (by (with_reducible repeat (first | apply Kd.R_alloc | apply Kd.R_drewN | apply Kd.R_drew)); exact HO316.out) hb); have n4_ := Aside0.mk (Kd.R_below (by (with_reducible repeat (first | apply Kd.R_alloc | apply Kd.R_drewN | apply Kd.R_drew)); exact HO320.out) hb); have n5_ := Aside0.mk (Kd.R_below (by (with_reducible repeat (first | apply Kd.R_alloc | apply Kd.R_drewN | apply Kd.R_drew)); exact HO324.out) hb); have n6_ := Aside0.mk (Kd.C_below (by repeat (first | (with_reducible exact HR306.out) | (with_reducible refine Kd.C_alloc ?_ _) | (with_reducible refine Kd.C_drewN ?_ _) | (with_reducible refine Kd.C_drew ?_) | exact HR306.out)) hb); have n7_ := Aside0.mk (Kd.C_below (by repeat (first | (with_reducible exact HR313.out) | (with_reducible refine Kd.C_alloc ?_ _) | (with_reducible refine Kd.C_drewN ?_ _) | (with_reducible refine Kd.C_drew ?_) | exact HR313.out)) hb); have n8_ := Aside0.mk (below_step (by repeat (first | (with_reducible first | exact HB.out | apply below_alloc | apply pw_below_drewN | apply below_drew1) | exact HB.out)) hb); clear HO_5; clear HO_7; clear HO_9; clear HO316; clear HO320; clear HO324; clear HR306; clear HR313; clear HB; have HO_5 := n0_; have HO_7 := n1_; have HO_9 := n2_; have HO316 := n3_; have HO320 := n4_; have HO324 := n5_; have HR306 := n6_; have HR313 := n7_; have HB := n8_; clear n0_ n1_ n2_ n3_ n4_ n5_ n6_ n7_ n8_; (try clear hb); (try clear hb2); (try clear hk); (try clear hi); obtain ⟨Ao71, co71, eo71⟩ := Kd.R_slice HO320.out; subst eo71) | ((with_reducible refine gate_callee (f := 9) rfl ?_); refine goesL_ (some 122) rfl rfl Tryd.func9 (by kernel_rfl) rfl #[.slice Ao71 t317.length co71, .string t322] rfl (by (try simp only [List.map_toArray, List.map_cons, List.map_nil]); first | done | rfl | (simp only [List.length_drop, List.length_take]; rfl)) ?_; (with_reducible refine (impl_RingServer.calls _ _ t317 t322 t327 true _ ?side1 ?side2 A36.out).mono ?_); (case side1 => repeat (first | exact (Kd.R_reads' HO320.out).2.2 | (with_reducible refine Kd.C_alloc ?_ _) | (with_reducible refine Kd.C_drewN ?_ _) | (with_reducible refine Kd.C_drew ?_))); (case side2 => exact (Kd.R_reads' HO320.out).2.1); rintro e w72 ⟨rfl, hb⟩; refine ⟨_, rfl, ?_⟩; have n0_ := Aside0.mk (Kd.R_below (by (with_reducible repeat (first | apply Kd.R_alloc | apply Kd.R_drewN | apply Kd.R_drew)); exact HO_5.out) hb); have n1_ := Aside0.mk (Kd.R_below (by (with_reducible repeat (first | apply Kd.R_alloc | apply Kd.R_drewN | apply Kd.R_drew)); exact HO_7.out) hb); have n2_ := Aside0.mk (Kd.R_below (by (with_reducible repeat (first | apply Kd.R_alloc | apply Kd.R_drewN | apply Kd.R_drew)); exact HO_9.out) hb); have n3_ := Aside0.mk (Kd.R_below (by (with_reducible repeat (first | apply Kd.R_alloc | apply Kd.R_drewN | apply Kd.R_drew)); exact HO316.out) hb); have n4_ := Aside0.mk (Kd.R_below (by (with_reducible repeat (first | apply Kd.R_alloc | apply Kd.R_drewN | apply Kd.R_drew)); exact HO320.out) hb); have n5_ := Aside0.mk (Kd.R_below (by (with_reducible repeat (first | apply Kd.R_alloc | apply Kd.R_drewN | apply Kd.R_drew)); exact HO324.out) hb); have n6_ := Aside0.mk (Kd.C_below (by repeat (first | (with_reducible exact HR306.out) | (with_reducible refine Kd.C_alloc ?_ _) | (with_reducible refine Kd.C_drewN ?_ _) | (with_reducible refine Kd.C_drew ?_) | exact HR306.out)) hb); have n7_ := Aside0.mk (Kd.C_below (by repeat (first | (with_reducible exact HR313.out) | (with_reducible refine Kd.C_alloc ?_ _) | (with_reducible refine Kd.C_drewN ?_ _) | (with_reducible refine Kd.C_drew ?_) | exact HR313.out)) hb); have n8_ := Aside0.mk (below_step (by repeat (first | (with_reducible first | exact HB.out | apply below_alloc | apply pw_below_drewN | apply below_drew1) | exact HB.out)) hb); clear HO_5; clear HO_7; clear HO_9; clear HO316; clear HO320; clear HO324; clear HR306; clear HR313; clear HB; have HO_5 := n0_; have HO_7 := n1_; have HO_9 := n2_; have HO316 := n3_; have HO320 := n4_; have HO324 := n5_; have HR306 := n6_; have HR313 := n7_; have HB := n8_; clear n0_ n1_ n2_ n3_ n4_ n5_ n6_ n7_ n8_; (try clear hb); (try clear hb2); (try clear hk); (try clear hi)) | ((with_reducible refine gate_callee (f := 10) rfl ?_); refine goesL_ (some 128) rfl rfl Tryd.func10 (by kernel_rfl) rfl #[.slice Ao13 t289.length co13, .string t322] rfl (by (try simp only [List.map_toArray, List.map_cons, List.map_nil]); first | done | rfl | (simp only [List.length_drop, List.length_take]; rfl)) ?_; (with_reducible refine (spec_RingServer.calls k1 _ _ t289 t322 t329 true _ ?side1 ?side2 A37.out).mono ?_); (case side1 => repeat (first | exact (Kd.R_reads' HO_7.out).2.2 | (with_reducible refine Kd.C_alloc ?_ _) | (with_reducible refine Kd.C_drewN ?_ _) | (with_reducible refine Kd.C_drew ?_))); (case side2 => exact (Kd.R_reads' HO_7.out).2.1); rintro e w73 ⟨rfl, hb⟩; refine ⟨_, rfl, ?_⟩; have n0_ := Aside0.mk (Kd.R_below (by (with_reducible repeat (first | apply Kd.R_alloc | apply Kd.R_drewN | apply Kd.R_drew)); exact HO_5.out) hb); have n1_ := Aside0.mk (Kd.R_below (by (with_reducible repeat (first | apply Kd.R_alloc | apply Kd.R_drewN | apply Kd.R_drew)); exact HO_7.out) hb); have n2_ := Aside0.mk (Kd.R_below (by (with_reducible repeat (first | apply Kd.R_alloc | apply Kd.R_drewN | apply Kd.R_drew)); exact HO_9.out) hb); have n3_ := Aside0.mk (Kd.R_below (by (with_reducible repeat (first | apply Kd.R_alloc | apply Kd.R_drewN | apply Kd.R_drew)); exact HO316.out) hb); have n4_ := Aside0.mk (Kd.R_below (by (with_reducible repeat (first | apply Kd.R_alloc | apply Kd.R_drewN | apply Kd.R_drew)); exact HO320.out) hb); have n5_ := Aside0.mk (Kd.R_below (by (with_reducible repeat (first | apply Kd.R_alloc | apply Kd.R_drewN | apply Kd.R_drew)); exact HO324.out) hb); have n6_ := Aside0.mk (Kd.C_below (by repeat (first | (with_reducible exact HR306.out) | (with_reducible refine Kd.C_alloc ?_ _) | (with_reducible refine Kd.C_drewN ?_ _) | (with_reducible refine Kd.C_drew ?_) | exact HR306.out)) hb); have n7_ := Aside0.mk (Kd.C_below (by repeat (first | (with_reducible exact HR313.out) | (with_reducible refine Kd.C_alloc ?_ _) | (with_reducible refine Kd.C_drewN ?_ _) | (with_reducible refine Kd.C_drew ?_) | exact HR313.out)) hb); have n8_ := Aside0.mk (below_step (by repeat (first | (with_reducible first | exact HB.out | apply below_alloc | apply pw_below_drewN | apply below_drew1) | exact HB.out)) hb); clear HO_5; clear HO_7; clear HO_9; clear HO316; clear HO320; clear HO324; clear HR306; clear HR313; clear HB; have HO_5 := n0_; have HO_7 := n1_; have HO_9 := n2_; have HO316 := n3_; have HO320 := n4_; have HO324 := n5_; have HR306 := n6_; have HR313 := n7_; have HB := n8_; clear n0_ n1_ n2_ n3_ n4_ n5_ n6_ n7_ n8_; (try clear hb); (try clear hb2); (try clear hk); (try clear hi); have p331 : 0 ≤ ((ji25) : Int) := of_decide_eq_true (by first | (with_reducible assumption) | assumption); have q331 : (ji25) < (t285.length : Int) := of_decide_eq_true (by first | (with_reducible assumption) | assumption); obtain ⟨ad331, e331, hx331_0⟩ := Kd.at_int (Kd.R_reads' HO_5.out).2.2 (ji25) p331 q331; cases e331; replace p331 := eq_true p331; replace q331 := eq_true q331; have p333 : 0 ≤ ((ji25) : Int) := of_decide_eq_true (by first | (with_reducible assumption) | assumption); have q333 : (ji25) < (t285.length : Int) := of_decide_eq_true (by first | (with_reducible assumption) | assumption); obtain ⟨ad333, e333, hx333_0⟩ := Kd.at_int (Kd.R_reads' HO_5.out).2.2 (ji25) p333 q333; obtain rfl : ad331 = ad333 := (by injection e333); replace p333 := eq_true p333; replace q333 := eq_true q333))
                                                go_ret
                                                exact ⟨by first | rfl | (simp [errW_none, errW_some] <;> rfl) | (simp only [← hji25, ← hji29]; first | rfl | (simp [errW_none, errW_some] <;> rfl)) | (simp [*, errW_none, errW_some] <;> rfl), by repeat (first | (with_reducible first | exact HB.out | apply below_alloc | apply pw_below_drewN | apply below_drew1) | exact HB.out)⟩
                                              · rw [if_neg c59] at H
                                                exact absurd H (by simp)
                                          · rw [if_neg c43] at H
                                            exact absurd H (by simp)
                                        · rw [if_neg c42] at H
                                          exact absurd H (by simp)
                                      · replace c41 := Bool.eq_false_iff.mpr c41
                                        subst c41
                                        have H1 : (none) = some r := by rw [if_neg (show ¬ (false = true) by decide)] at H; exact H
                                        clear H
                                        have H := H1
                                        clear H1
                                        exact absurd H (by simp)
                                    · replace c40 := Bool.eq_false_iff.mpr c40
                                      subst c40
                                      have H1 : (none) = some r := by rw [if_neg (show ¬ (false = true) by decide)] at H; exact H
                                      clear H
                                      have H := H1
                                      clear H1
                                      exact absurd H (by simp)
                                  · replace c39 := Bool.eq_false_iff.mpr c39
                                    subst c39
                                    have H1 : (none) = some r := by rw [if_neg (show ¬ (false = true) by decide)] at H; exact H
                                    clear H
                                    have H := H1
                                    clear H1
                                    exact absurd H (by simp)
                                · replace c38 := Bool.eq_false_iff.mpr c38
                                  subst c38
                                  have H1 : (none) = some r := by rw [if_neg (show ¬ (false = true) by decide)] at H; exact H
                                  clear H
                                  have H := H1
                                  clear H1
                                  exact absurd H (by simp)
                              · rw [if_neg c32] at H
                                exact absurd H (by simp)
                            · rw [if_neg c31] at H
                              exact absurd H (by simp)
                          · rw [if_neg c30] at H
                            exact absurd H (by simp)
                        · rw [if_neg c28] at H
                          exact absurd H (by simp)
                      · rw [if_neg c27] at H
                        exact absurd H (by simp)
                    · rw [if_neg c26] at H
                      exact absurd H (by simp)
              · replace c21 := Bool.eq_false_iff.mpr c21
                subst c21
                have H1 : (some ((t289.length : Int) == 0)) = some r := by rw [if_neg (show ¬ (false = true) by decide)] at H; exact H
                clear H
                have H := H1
                clear H1
                obtain rfl := Option.some.inj H
                go_wp2
                go_ret
                exact ⟨by first | rfl | (simp [errW_none, errW_some] <;> rfl) | (simp [*, errW_none, errW_some] <;> rfl), by repeat (first | (with_reducible first | exact HB.out | apply below_alloc | apply pw_below_drewN | apply below_drew1) | exact HB.out)⟩
      · rw [if_neg c8] at H
        exact absurd H (by simp)

/-- THE ONE PURE STATEMENT of laws_FnRing: yours. -/
def laws_FnRing.Pure : Prop := ∀ (l0 : List Int) (l1 : List Int), l0.length ≤ maxLen → l0.length * 1 ≤ 140737488351232 → (∀ x ∈ l0, (Lit.int .u8 x).wf = true) → l1.length ≤ maxLen → l1.length * 1 ≤ 140737488351232 → (∀ x ∈ l1, (Lit.int .u8 x).wf = true) → ∃ k, laws_FnRing.f k l0 l1 = some true
theorem laws_FnRing.walk (P : laws_FnRing.Pure) (a0 : Option Addr) (len0 cap0 : Nat) (z0 : List Int) (a1 : Option Addr) (len1 cap1 : Nat) (z1 : List Int) (w : World) (w0 : (a0 = none ∧ len0 = 0 ∧ cap0 = 0 ∧ z0 = []) ∨ ∃ x, a0 = some x ∧ len0 ≤ cap0 ∧ cap0 ≤ maxLen ∧ z0.length = cap0 ∧ (∀ i, i < z0.length → w.cell? (x.add i) = some (.int .u8 (z0.getD i 0))) ∧ ∀ n ∈ z0, (Lit.int .u8 n).wf = true) (y0 : len0 * 1 ≤ 140737488351232) (w1 : (a1 = none ∧ len1 = 0 ∧ cap1 = 0 ∧ z1 = []) ∨ ∃ x, a1 = some x ∧ len1 ≤ cap1 ∧ cap1 ≤ maxLen ∧ z1.length = cap1 ∧ (∀ i, i < z1.length → w.cell? (x.add i) = some (.int .u8 (z1.getD i 0))) ∧ ∀ n ∈ z1, (Lit.int .u8 n).wf = true) (y1 : len1 * 1 ≤ 140737488351232) :
    Calls Tryd.prog 3 #[.slice a0 len0 cap0, .slice a1 len1 cap1] w fun e w' => e = .returned (.bool true) ∧ Below w.heap.size w w' := by
  obtain ⟨l0, rfl, hr0, hm0, hw0, hc0⟩ := ReadsInt.ofRowC w0
  obtain ⟨l1, rfl, hr1, hm1, hw1, hc1⟩ := ReadsInt.ofRowC w1
  obtain ⟨k, h⟩ := P l0 l1 hm0 y0 hw0 hm1 y1 hw1
  refine (laws_FnRing.calls k _ _ l0 _ _ l1 true w (Kd.C_of_reads (d := (0 : Int)) (h1 := fun _ => rfl) hr0) hc0 (Kd.C_of_reads (d := (0 : Int)) (h1 := fun _ => rfl) hr1) hc1 h).mono ?_
  rintro e w' ⟨rfl, hd⟩
  exact ⟨rfl, hd⟩

end Go.Proofs.YtapnfghkfjkinaaDoor.PFnRing
