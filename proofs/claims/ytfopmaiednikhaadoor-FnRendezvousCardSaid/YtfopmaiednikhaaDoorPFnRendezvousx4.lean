-- written by a program of this session (wip/tool)
import Derived.Test.YtfopmaiednikhaaDoorPFnRendezvousx0
import Derived.Test.YtfopmaiednikhaaDoorPFnRendezvousx1
import Derived.Test.YtfopmaiednikhaaDoorPFnRendezvousx2
import Derived.Test.YtfopmaiednikhaaDoorOwn0
import Derived.Test.YtfopmaiednikhaaDoorOwnOpen
import Derived.Test.YtfopmaiednikhaaDoorOwnRk
import Derived.WalkKit
import Derived.BigCall
import Derived.Deep.QuietTactic
namespace Go.Proofs.YtfopmaiednikhaaDoor.PFnRendezvous
open Go.RowKit Go.Proofs.YtfopmaiednikhaaDoorW.PrintWords Go.Proofs.YtfopmaiednikhaaDoorW.PrintLast Go.Proofs.YtfopmaiednikhaaDoorW.PrintMore Go.Shelf Go.Proofs.YtfopmaiednikhaaDoorOwn
attribute [local go_sem] max2_int min2_int max_two min_two max_three min_three max_four min_four   -- for this text's walks alone
set_option linter.unusedVariables false
set_option linter.unusedSimpArgs false

/-! ### spec_MovedKeys: function 18 -/
def spec_MovedKeys.l0 : Nat → List Int → List Int → List ByteArray → List ByteArray → Int → Int → Option (List ByteArray × Bool)
  | 0, _, _, _, _, _, _ => none
  | k + 1, x1, x2, x8, x34, x35, x36 => if x36 < x35 then (if 0 ≤ x36 then (if x36 < (x34.length : Int) then ((spec_l14Ranked.f k x1 (rdOf ByteArray.empty x34 x36)).bind fun t181 => (if 0 < (t181.length : Int) then ((spec_l14Ranked.f k x2 (rdOf ByteArray.empty x34 x36)).bind fun t185 => (if 0 < (t185.length : Int) then (if (rd t181 0) = (rd t185 0) then (spec_MovedKeys.l0 k x1 x2 x8 x34 x35 (wrap64 (x36 + 1))) else (if x8.length < 8796093022208 then (spec_MovedKeys.l0 k x1 x2 (x8 ++ [rdOf ByteArray.empty x34 x36]) x34 x35 (wrap64 (x36 + 1))) else (none))) else (none))) else (none))) else (none)) else (none)) else (some (x8, true))
def spec_MovedKeys.f (k : Nat) (l0 : List ByteArray) (l1 : List Int) (l2 : List Int) : Option (List ByteArray × Bool) := (spec_l14Servers.f k l1).bind fun t178 => (if t178 = true then ((spec_l14Servers.f k l2).bind fun t179 => (if t179 = true then (if (l1.length : Int) = 0 then (some (([] : List ByteArray), false)) else (if (l2.length : Int) = 0 then (some (([] : List ByteArray), false)) else (if (l0.length : Int) > 60 then (some (([] : List ByteArray), false)) else (spec_MovedKeys.l0 k l1 l2 ([] : List ByteArray) l0 (l0.length : Int) 0)))) else (some (([] : List ByteArray), false)))) else (some (([] : List ByteArray), false)))
theorem spec_MovedKeys.mono_l : ∀ k, (∀ y0 y1 y2 y3 y4 y5, LeO (spec_MovedKeys.l0 k y0 y1 y2 y3 y4 y5) (spec_MovedKeys.l0 (k + 1) y0 y1 y2 y3 y4 y5))
  | 0 => fun _ _ _ _ _ _ r h => by simp [spec_MovedKeys.l0] at h
  | k + 1 => by
    have ih0 := spec_MovedKeys.mono_l k
    · intro y0 y1 y2 y3 y4 y5
      unfold spec_MovedKeys.l0
      repeat' first
      | (with_reducible exact ih0 _ _ _ _ _ _)
      | (with_reducible exact spec_l14Ranked.mono _ _ _)
      | (with_reducible exact spec_l14Servers.mono _ _)
      | (with_reducible exact LeO.refl _)
      | (with_reducible exact LeO.none _)
      | (with_reducible refine LeO.ite ?_ ?_)
      | (with_reducible refine LeO.bind ?_ (fun _ => ?_))
      | exact ih0 _ _ _ _ _ _
      | exact spec_l14Ranked.mono _ _ _
      | exact spec_l14Servers.mono _ _
      | exact LeO.none _
      | refine LeO.ite ?_ ?_
      | refine LeO.bind ?_ (fun _ => ?_)
theorem spec_MovedKeys.mono : ∀ a0 a1 a2 k, LeO (spec_MovedKeys.f k a0 a1 a2) (spec_MovedKeys.f (k + 1) a0 a1 a2) := by
  intro a0 a1 a2 k
  have ih0 := spec_MovedKeys.mono_l k
  unfold spec_MovedKeys.f
  repeat' first
      | (with_reducible exact ih0 _ _ _ _ _ _)
      | (with_reducible exact spec_l14Ranked.mono _ _ _)
      | (with_reducible exact spec_l14Servers.mono _ _)
      | (with_reducible exact LeO.refl _)
      | (with_reducible exact LeO.none _)
      | (with_reducible refine LeO.ite ?_ ?_)
      | (with_reducible refine LeO.bind ?_ (fun _ => ?_))
      | exact ih0 _ _ _ _ _ _
      | exact spec_l14Ranked.mono _ _ _
      | exact spec_l14Servers.mono _ _
      | exact LeO.none _
      | refine LeO.ite ?_ ?_
      | refine LeO.bind ?_ (fun _ => ?_)
def spec_MovedKeys.T7 : Bool × List (List Nat × List Nat) := (true, [([], []), ([], []), ([0, 1], [0, 1]), ([2], [2]), ([3], [3]), ([], []), ([], []), ([5, 6, 2], [5, 6]), ([7], [7]), ([8], [8]), ([4, 9], [4, 9])])
def spec_MovedKeys.B7 : List Nat := [0, 0, 3, 7, 15, 0, 0, 103, 231, 487, 1023]
theorem spec_MovedKeys.tab7 : rtab .any (opsOf Tryd.f18 7) = spec_MovedKeys.T7 := by kernel_rfl
theorem spec_MovedKeys.bits7 : waitsOk spec_MovedKeys.T7.2 spec_MovedKeys.B7 = true := by kernel_rfl
set_option maxHeartbeats 8000000 in
set_option maxRecDepth 100000 in
theorem spec_MovedKeys.calls (k : Nat) (A0 : Option Addr) (c0 : Nat) (l0 : List ByteArray) (A1 : Option Addr) (c1 : Nat) (l1 : List Int) (A2 : Option Addr) (c2 : Nat) (l2 : List Int) (r1 : List ByteArray) (r2 : Bool) (w : World) (hr0 : Kd.C Kd.string w A0 l0.length l0) (hc0 : l0.length ≤ c0) (hr1 : Kd.C (Kd.int .i64) w A1 l1.length l1) (hc1 : l1.length ≤ c1) (hr2 : Kd.C (Kd.int .i64) w A2 l2.length l2) (hc2 : l2.length ≤ c2) (h : spec_MovedKeys.f k l0 l1 l2 = some (r1, r2)) :
    Calls Tryd.prog 18 #[.slice A0 l0.length c0, .slice A1 l1.length c1, .slice A2 l2.length c2] w fun e w' => ∃ v0_ : Value, e = .returned (.tuple #[v0_, .bool r2]) ∧ Kd.R Kd.string 9 w' w.heap.size (fun _ => True) v0_ r1 ∧ Below w.heap.size w w' := by
  have HR0 := Aside0.mk hr0
  have HC0 := Aside0.mk hc0
  clear hr0 hc0
  have HR1 := Aside0.mk hr1
  have HC1 := Aside0.mk hc1
  clear hr1 hc1
  have HR2 := Aside0.mk hr2
  have HC2 := Aside0.mk hc2
  clear hr2 hc2
  have HB := Aside0.mk (Below.refl w.heap.size w)
  have H : ((spec_l14Servers.f k l1).bind fun t178 => (if t178 = true then ((spec_l14Servers.f k l2).bind fun t179 => (if t179 = true then (if (l1.length : Int) = 0 then (some (([] : List ByteArray), false)) else (if (l2.length : Int) = 0 then (some (([] : List ByteArray), false)) else (if (l0.length : Int) > 60 then (some (([] : List ByteArray), false)) else (spec_MovedKeys.l0 k l1 l2 ([] : List ByteArray) l0 (l0.length : Int) 0)))) else (some (([] : List ByteArray), false)))) else (some (([] : List ByteArray), false)))) = some (r1, r2) := h
  clear h
  replace H := Option.bind_eq_some_iff.mp H
  obtain ⟨t178, A40, H⟩ := H
  replace H : (if t178 = true then ((spec_l14Servers.f k l2).bind fun t179 => (if t179 = true then (if (l1.length : Int) = 0 then (some (([] : List ByteArray), false)) else (if (l2.length : Int) = 0 then (some (([] : List ByteArray), false)) else (if (l0.length : Int) > 60 then (some (([] : List ByteArray), false)) else (spec_MovedKeys.l0 k l1 l2 ([] : List ByteArray) l0 (l0.length : Int) 0)))) else (some (([] : List ByteArray), false)))) else (some (([] : List ByteArray), false))) = some (r1, r2) := H
  have A4 := Aside0.mk A40
  clear A40
  by_cases c5 : t178 = true
  · subst c5
    have H1 : ((spec_l14Servers.f k l2).bind fun t179 => (if t179 = true then (if (l1.length : Int) = 0 then (some (([] : List ByteArray), false)) else (if (l2.length : Int) = 0 then (some (([] : List ByteArray), false)) else (if (l0.length : Int) > 60 then (some (([] : List ByteArray), false)) else (spec_MovedKeys.l0 k l1 l2 ([] : List ByteArray) l0 (l0.length : Int) 0)))) else (some (([] : List ByteArray), false)))) = some (r1, r2) := by rw [if_pos rfl] at H; exact H
    clear H
    have H := H1
    clear H1
    replace H := Option.bind_eq_some_iff.mp H
    obtain ⟨t179, A60, H⟩ := H
    replace H : (if t179 = true then (if (l1.length : Int) = 0 then (some (([] : List ByteArray), false)) else (if (l2.length : Int) = 0 then (some (([] : List ByteArray), false)) else (if (l0.length : Int) > 60 then (some (([] : List ByteArray), false)) else (spec_MovedKeys.l0 k l1 l2 ([] : List ByteArray) l0 (l0.length : Int) 0)))) else (some (([] : List ByteArray), false))) = some (r1, r2) := H
    have A6 := Aside0.mk A60
    clear A60
    by_cases c7 : t179 = true
    · subst c7
      have H1 : (if (l1.length : Int) = 0 then (some (([] : List ByteArray), false)) else (if (l2.length : Int) = 0 then (some (([] : List ByteArray), false)) else (if (l0.length : Int) > 60 then (some (([] : List ByteArray), false)) else (spec_MovedKeys.l0 k l1 l2 ([] : List ByteArray) l0 (l0.length : Int) 0)))) = some (r1, r2) := by rw [if_pos rfl] at H; exact H
      clear H
      have H := H1
      clear H1
      by_cases c8 : (l1.length : Int) = 0
      · rw [if_pos c8] at H
        have c8b0 : ((l1.length : Int) == 0) = true := beq_iff_eq.mpr c8
        have c8b1 : ((l1.length : Int) != 0) = false := bne_eq_false_iff_eq.mpr c8
        clear c8
        simp only [Option.some.injEq, Prod.mk.injEq] at H
        obtain ⟨rfl, rfl⟩ := H
        go_enter Tryd.func18, Tryd.ntmps18
        go_wp2_with (first | ((with_reducible refine gate_callee (f := 43) rfl ?_); refine goesL_ (some 12) rfl rfl Tryd.func43 (by kernel_rfl) rfl #[.slice A1 l1.length c1] rfl (by (try simp only [List.map_toArray, List.map_cons, List.map_nil]); first | done | rfl | (simp only [List.length_drop, List.length_take]; rfl)) ?_; (with_reducible refine (spec_l14Servers.calls k _ _ l1 true _ ?side1 ?side2 A4.out).mono ?_); (case side1 => repeat (first | exact HR1.out | (with_reducible refine Kd.C_alloc ?_ _) | (with_reducible refine Kd.C_drewN ?_ _) | (with_reducible refine Kd.C_drew ?_))); (case side2 => exact HC1.out); rintro e w' ⟨rfl, ⟨nd, rfl⟩⟩; refine ⟨_, rfl, ?_⟩) | (go_at_call 43; (with_reducible refine (spec_l14Servers.calls k _ _ l2 true _ ?side1 ?side2 A6.out).mono ?_); (case side1 => repeat (first | exact HR2.out | (with_reducible refine Kd.C_alloc ?_ _) | (with_reducible refine Kd.C_drewN ?_ _) | (with_reducible refine Kd.C_drew ?_))); (case side2 => exact HC2.out); rintro e w' ⟨rfl, ⟨nd, rfl⟩⟩))
        go_ret2
        exact ⟨_, by first | rfl | (simp [errW_none, errW_some] <;> rfl) | (simp [*, errW_none, errW_some] <;> rfl), by first | exact Kd.R_nil _ _ _ _ _ | exact Kd.N_nil _ _ _ _ _ | exact Kd.V_nil _ _ _ _ _ | exact Kd.Q_nil _ _ _ _ _ | exact Kd.S_nil _ _ _ _ _, by repeat (first | (with_reducible first | exact HB.out | apply below_alloc | apply pw_below_drewN | apply below_drew1) | exact HB.out)⟩
      · rw [if_neg c8] at H
        have c8b0 : ((l1.length : Int) == 0) = false := beq_eq_false_iff_ne.mpr c8
        have c8b1 : ((l1.length : Int) != 0) = true := bne_iff_ne.mpr c8
        have c8b2 : ¬ (l1 = []) := fun h_ => c8 (by rw [h_]; rfl)
        by_cases c9 : (l2.length : Int) = 0
        · rw [if_pos c9] at H
          have c9b0 : ((l2.length : Int) == 0) = true := beq_iff_eq.mpr c9
          have c9b1 : ((l2.length : Int) != 0) = false := bne_eq_false_iff_eq.mpr c9
          clear c9
          simp only [Option.some.injEq, Prod.mk.injEq] at H
          obtain ⟨rfl, rfl⟩ := H
          go_enter Tryd.func18, Tryd.ntmps18
          go_wp2_with (first | ((with_reducible refine gate_callee (f := 43) rfl ?_); refine goesL_ (some 12) rfl rfl Tryd.func43 (by kernel_rfl) rfl #[.slice A1 l1.length c1] rfl (by (try simp only [List.map_toArray, List.map_cons, List.map_nil]); first | done | rfl | (simp only [List.length_drop, List.length_take]; rfl)) ?_; (with_reducible refine (spec_l14Servers.calls k _ _ l1 true _ ?side1 ?side2 A4.out).mono ?_); (case side1 => repeat (first | exact HR1.out | (with_reducible refine Kd.C_alloc ?_ _) | (with_reducible refine Kd.C_drewN ?_ _) | (with_reducible refine Kd.C_drew ?_))); (case side2 => exact HC1.out); rintro e w' ⟨rfl, ⟨nd, rfl⟩⟩; refine ⟨_, rfl, ?_⟩) | (go_at_call 43; (with_reducible refine (spec_l14Servers.calls k _ _ l2 true _ ?side1 ?side2 A6.out).mono ?_); (case side1 => repeat (first | exact HR2.out | (with_reducible refine Kd.C_alloc ?_ _) | (with_reducible refine Kd.C_drewN ?_ _) | (with_reducible refine Kd.C_drew ?_))); (case side2 => exact HC2.out); rintro e w' ⟨rfl, ⟨nd, rfl⟩⟩))
          go_ret2
          exact ⟨_, by first | rfl | (simp [errW_none, errW_some] <;> rfl) | (simp [*, errW_none, errW_some] <;> rfl), by first | exact Kd.R_nil _ _ _ _ _ | exact Kd.N_nil _ _ _ _ _ | exact Kd.V_nil _ _ _ _ _ | exact Kd.Q_nil _ _ _ _ _ | exact Kd.S_nil _ _ _ _ _, by repeat (first | (with_reducible first | exact HB.out | apply below_alloc | apply pw_below_drewN | apply below_drew1) | exact HB.out)⟩
        · rw [if_neg c9] at H
          have c9b0 : ((l2.length : Int) == 0) = false := beq_eq_false_iff_ne.mpr c9
          have c9b1 : ((l2.length : Int) != 0) = true := bne_iff_ne.mpr c9
          have c9b2 : ¬ (l2 = []) := fun h_ => c9 (by rw [h_]; rfl)
          by_cases c10 : (l0.length : Int) > 60
          · rw [if_pos c10] at H
            have c10b0 : decide (60 < (l0.length : Int)) = true := decide_eq_true c10
            have c10b1 : decide (60 < l0.length) = true := decide_eq_true (by omega)
            clear c10
            simp only [Option.some.injEq, Prod.mk.injEq] at H
            obtain ⟨rfl, rfl⟩ := H
            go_enter Tryd.func18, Tryd.ntmps18
            go_wp2_with (first | ((with_reducible refine gate_callee (f := 43) rfl ?_); refine goesL_ (some 12) rfl rfl Tryd.func43 (by kernel_rfl) rfl #[.slice A1 l1.length c1] rfl (by (try simp only [List.map_toArray, List.map_cons, List.map_nil]); first | done | rfl | (simp only [List.length_drop, List.length_take]; rfl)) ?_; (with_reducible refine (spec_l14Servers.calls k _ _ l1 true _ ?side1 ?side2 A4.out).mono ?_); (case side1 => repeat (first | exact HR1.out | (with_reducible refine Kd.C_alloc ?_ _) | (with_reducible refine Kd.C_drewN ?_ _) | (with_reducible refine Kd.C_drew ?_))); (case side2 => exact HC1.out); rintro e w' ⟨rfl, ⟨nd, rfl⟩⟩; refine ⟨_, rfl, ?_⟩) | (go_at_call 43; (with_reducible refine (spec_l14Servers.calls k _ _ l2 true _ ?side1 ?side2 A6.out).mono ?_); (case side1 => repeat (first | exact HR2.out | (with_reducible refine Kd.C_alloc ?_ _) | (with_reducible refine Kd.C_drewN ?_ _) | (with_reducible refine Kd.C_drew ?_))); (case side2 => exact HC2.out); rintro e w' ⟨rfl, ⟨nd, rfl⟩⟩))
            go_ret2
            exact ⟨_, by first | rfl | (simp [errW_none, errW_some] <;> rfl) | (simp [*, errW_none, errW_some] <;> rfl), by first | exact Kd.R_nil _ _ _ _ _ | exact Kd.N_nil _ _ _ _ _ | exact Kd.V_nil _ _ _ _ _ | exact Kd.Q_nil _ _ _ _ _ | exact Kd.S_nil _ _ _ _ _, by repeat (first | (with_reducible first | exact HB.out | apply below_alloc | apply pw_below_drewN | apply below_drew1) | exact HB.out)⟩
          · rw [if_neg c10] at H
            have c10b0 : decide (60 < (l0.length : Int)) = false := decide_eq_false c10
            have c10b1 : decide (60 < l0.length) = false := decide_eq_false (by omega)
            clear c10
            have H' := Aside0.mk H
            clear H
            go_enter Tryd.func18, Tryd.ntmps18
            go_wp2_with (first | ((with_reducible refine gate_callee (f := 43) rfl ?_); refine goesL_ (some 12) rfl rfl Tryd.func43 (by kernel_rfl) rfl #[.slice A1 l1.length c1] rfl (by (try simp only [List.map_toArray, List.map_cons, List.map_nil]); first | done | rfl | (simp only [List.length_drop, List.length_take]; rfl)) ?_; (with_reducible refine (spec_l14Servers.calls k _ _ l1 true _ ?side1 ?side2 A4.out).mono ?_); (case side1 => repeat (first | exact HR1.out | (with_reducible refine Kd.C_alloc ?_ _) | (with_reducible refine Kd.C_drewN ?_ _) | (with_reducible refine Kd.C_drew ?_))); (case side2 => exact HC1.out); rintro e w' ⟨rfl, ⟨nd, rfl⟩⟩; refine ⟨_, rfl, ?_⟩) | (go_at_call 43; (with_reducible refine (spec_l14Servers.calls k _ _ l2 true _ ?side1 ?side2 A6.out).mono ?_); (case side1 => repeat (first | exact HR2.out | (with_reducible refine Kd.C_alloc ?_ _) | (with_reducible refine Kd.C_drewN ?_ _) | (with_reducible refine Kd.C_drew ?_))); (case side2 => exact HC2.out); rintro e w' ⟨rfl, ⟨nd, rfl⟩⟩))
            go_loopg [8, 36] k (fun kq v8 v36 w' => ∃ (x8_1 : List ByteArray) (x36_1 : Int), v36 = .int .i64 x36_1 ∧ Aside0 (spec_MovedKeys.l0 kq l1 l2 x8_1 l0 (l0.length : Int) x36_1 = some (r1, r2)) ∧ Aside0 (kq ≤ k) ∧ Aside0 (Kd.R Kd.string 9 w' w.heap.size (fun _ => True) v8 x8_1) ∧ Aside0 (Below w.heap.size w w'))
            case atStart => exact ⟨(([] : List ByteArray)), (0), (by first | rfl | (simp; done) | (simp [*]; done)), H', ⟨Nat.le_refl _⟩, ⟨by first | exact Kd.R_nil _ _ _ _ _ | exact Kd.N_nil _ _ _ _ _ | exact Kd.V_nil _ _ _ _ _ | exact Kd.Q_nil _ _ _ _ _ | exact Kd.S_nil _ _ _ _ _⟩, ⟨by repeat (first | (with_reducible first | exact HB.out | apply below_alloc | apply pw_below_drewN | apply below_drew1) | exact HB.out)⟩⟩
            case round =>
              clear H'
              try clear c1
              try clear c2
              try clear p2
              try clear c4
              try clear c5
              try clear c7
              try clear c8
              try clear c8b0
              try clear c8b1
              try clear c8b2
              try clear c9
              try clear c9b0
              try clear c9b1
              try clear c9b2
              try clear c10
              try clear c10b0
              try clear c10b1
              obtain ⟨x8_1, x36_1, rfl, HA, HK1, HO_8, HB⟩ := hrel
              cases gk with
              | zero => exact absurd HA.out (by simp [spec_MovedKeys.l0])
              | succ k1 =>
                have H := HA.out
                clear HA
                simp only [spec_MovedKeys.l0] at H
                by_cases c11 : x36_1 < (l0.length : Int)
                · rw [if_pos c11] at H
                  have c11b0 : decide (x36_1 < (l0.length : Int)) = true := decide_eq_true c11
                  clear c11
                  by_cases c12 : 0 ≤ x36_1
                  · rw [if_pos c12] at H
                    have c12b0 : decide (0 ≤ x36_1) = true := decide_eq_true c12
                    clear c12
                    by_cases c13 : x36_1 < (l0.length : Int)
                    · rw [if_pos c13] at H
                      have c13b0 : decide (x36_1 < (l0.length : Int)) = true := decide_eq_true c13
                      clear c13
                      replace H := Option.bind_eq_some_iff.mp H
                      obtain ⟨t181, A140, H⟩ := H
                      replace H : (if 0 < (t181.length : Int) then ((spec_l14Ranked.f k1 l2 (rdOf ByteArray.empty l0 x36_1)).bind fun t185 => (if 0 < (t185.length : Int) then (if (rd t181 0) = (rd t185 0) then (spec_MovedKeys.l0 k1 l1 l2 x8_1 l0 (l0.length : Int) (wrap64 (x36_1 + 1))) else (if x8_1.length < 8796093022208 then (spec_MovedKeys.l0 k1 l1 l2 (x8_1 ++ [rdOf ByteArray.empty l0 x36_1]) l0 (l0.length : Int) (wrap64 (x36_1 + 1))) else (none))) else (none))) else (none)) = some (r1, r2) := H
                      have A14 := Aside0.mk A140
                      clear A140
                      by_cases c15 : 0 < (t181.length : Int)
                      · rw [if_pos c15] at H
                        have c15b0 : decide (0 < (t181.length : Int)) = true := decide_eq_true c15
                        have c15b1 : decide (0 < t181.length) = true := decide_eq_true (by omega)
                        clear c15
                        replace H := Option.bind_eq_some_iff.mp H
                        obtain ⟨t185, A160, H⟩ := H
                        replace H : (if 0 < (t185.length : Int) then (if (rd t181 0) = (rd t185 0) then (spec_MovedKeys.l0 k1 l1 l2 x8_1 l0 (l0.length : Int) (wrap64 (x36_1 + 1))) else (if x8_1.length < 8796093022208 then (spec_MovedKeys.l0 k1 l1 l2 (x8_1 ++ [rdOf ByteArray.empty l0 x36_1]) l0 (l0.length : Int) (wrap64 (x36_1 + 1))) else (none))) else (none)) = some (r1, r2) := H
                        have A16 := Aside0.mk A160
                        clear A160
                        by_cases c17 : 0 < (t185.length : Int)
                        · rw [if_pos c17] at H
                          have c17b0 : decide (0 < (t185.length : Int)) = true := decide_eq_true c17
                          have c17b1 : decide (0 < t185.length) = true := decide_eq_true (by omega)
                          clear c17
                          by_cases c18 : (rd t181 0) = (rd t185 0)
                          · rw [if_pos c18] at H
                            have c18b0 : ((rd t181 0) == (rd t185 0)) = true := beq_iff_eq.mpr c18
                            have c18b1 : ((rd t181 0) != (rd t185 0)) = false := bne_eq_false_iff_eq.mpr c18
                            clear c18
                            have H' := Aside0.mk H
                            clear H
                            have p180 : 0 ≤ (x36_1 : Int) := of_decide_eq_true (by first | (with_reducible assumption) | assumption)
                            have q180 : x36_1 < (l0.length : Int) := of_decide_eq_true (by first | (with_reducible assumption) | assumption)
                            obtain ⟨ad180, e180, hx180_0⟩ := Kd.at_string HR0.out x36_1 p180 q180
                            cases e180
                            replace hx180_0 := (HB.out.cell (World.block_lt_of_cell? w _ hx180_0)).trans hx180_0
                            replace p180 := eq_true p180
                            replace q180 := eq_true q180
                            try go_wp2
                            have n0_ := Aside0.mk (Kd.R_drew HO_8.out)
                            have n1_ := Aside0.mk (below_drew1 HB.out)
                            clear HO_8
                            clear HB
                            have HO_8 := n0_
                            have HB := n1_
                            clear n0_ n1_
                            go_region_with (first | (go_at_call 44; with_reducible refine (spec_l14Ranked.calls k1 _ _ l1 (rdOf ByteArray.empty l0 x36_1) t181 _ (Kd.C_below HR1.out HB.out) HC1.out A14.out).mono ?_; rintro e w20 ⟨vA_, rfl, hoA_, hbA_⟩; obtain ⟨AoA_, coA_, eoA_⟩ := Kd.R_slice hoA_; subst eoA_; obtain ⟨ad_a, e_a, hx_a⟩ := Kd.at_int (Kd.R_reads' hoA_).2.2 0 (by omega) (by have := of_decide_eq_true c15b0; omega); cases e_a; rw [show ((0 : Int)).toNat = 0 from rfl, Addr.add_zero'] at hx_a; have qq_a : (0 < t181.length) = True := eq_true (by have := of_decide_eq_true c15b0; omega); have HAo := Aside0.mk hoA_; have HAb := Aside0.mk hbA_; clear hoA_ hbA_) | (go_at_call 44; with_reducible refine (spec_l14Ranked.calls k1 _ _ l2 (rdOf ByteArray.empty l0 x36_1) t185 _ (Kd.C_below HR2.out (below_step HB.out HAb.out)) HC2.out A16.out).mono ?_; rintro e w22 ⟨vB_, rfl, hoB_, hbB_⟩; obtain ⟨AoB_, coB_, eoB_⟩ := Kd.R_slice hoB_; subst eoB_; obtain ⟨ad_b, e_b, hx_b⟩ := Kd.at_int (Kd.R_reads' hoB_).2.2 0 (by omega) (by have := of_decide_eq_true c17b0; omega); cases e_b; rw [show ((0 : Int)).toNat = 0 from rfl, Addr.add_zero'] at hx_b; have qq_b : (0 < t185.length) = True := eq_true (by have := of_decide_eq_true c17b0; omega); have hx_a2 := (hbB_.cell (World.block_lt_of_cell? _ _ hx_a)).trans hx_a; have HBo := Aside0.mk hoB_; have HBb := Aside0.mk hbB_; clear hoB_ hbB_))
                            all_goals (have n0_ := Aside0.mk (Kd.R_below (Kd.R_below HO_8.out HAb.out) HBb.out); have n1_ := Aside0.mk (below_step (below_step HB.out HAb.out) HBb.out); have HO183 := Aside0.mk (Kd.R_lower (Kd.R_below HAo.out HBb.out) (below_size HB.out)); have HO187 := Aside0.mk (Kd.R_lower HBo.out (below_size (below_step HB.out HAb.out))); clear HO_8; clear HB; have HO_8 := n0_; have HB := n1_; clear n0_ n1_; clear HAo HBo HAb HBb)
                            all_goals (
                              try go_wp2
                              go_roundg k1
                              case measure => have := HK1.out; omega
                              case rel => exact ⟨(x8_1), (wrap64 (x36_1 + 1)), (by first | rfl | (simp; done) | (simp [*]; done)), H', ⟨by have := HK1.out; omega⟩, ⟨by (with_reducible repeat (first | apply Kd.R_alloc | apply Kd.R_drewN | apply Kd.R_drew)); exact HO_8.out⟩, ⟨by repeat (first | (with_reducible first | exact HB.out | apply below_alloc | apply pw_below_drewN | apply below_drew1) | exact HB.out)⟩⟩)
                          · rw [if_neg c18] at H
                            have c18b0 : ((rd t181 0) == (rd t185 0)) = false := beq_eq_false_iff_ne.mpr c18
                            have c18b1 : ((rd t181 0) != (rd t185 0)) = true := bne_iff_ne.mpr c18
                            by_cases c24 : x8_1.length < 8796093022208
                            · rw [if_pos c24] at H
                              have LMc24 := Aside0.mk c24
                              clear c24
                              obtain ⟨y189, hy189⟩ : ∃ y_ : List ByteArray, y_ = (x8_1 ++ [rdOf ByteArray.empty l0 x36_1]) := ⟨_, rfl⟩
                              replace H : (spec_MovedKeys.l0 k1 l1 l2 y189 l0 (l0.length : Int) (wrap64 (x36_1 + 1))) = some (r1, r2) := by first | (rw [hy189]; with_reducible exact H) | (have H2_ := (Option.bind_some _ _).symm.trans H; rw [hy189]; with_reducible exact H2_) | (have H2_ := (Option.bind_some _ _).symm.trans H; with_reducible exact H2_) | with_reducible exact H | (rw [hy189]; exact H) | exact H
                              have Ny189 := Aside0.mk hy189
                              clear hy189
                              have H' := Aside0.mk H
                              clear H
                              have p180 : 0 ≤ (x36_1 : Int) := of_decide_eq_true (by first | (with_reducible assumption) | assumption)
                              have q180 : x36_1 < (l0.length : Int) := of_decide_eq_true (by first | (with_reducible assumption) | assumption)
                              obtain ⟨ad180, e180, hx180_0⟩ := Kd.at_string HR0.out x36_1 p180 q180
                              cases e180
                              replace hx180_0 := (HB.out.cell (World.block_lt_of_cell? w _ hx180_0)).trans hx180_0
                              replace p180 := eq_true p180
                              replace q180 := eq_true q180
                              try go_wp2
                              have n0_ := Aside0.mk (Kd.R_drew HO_8.out)
                              have n1_ := Aside0.mk (below_drew1 HB.out)
                              clear HO_8
                              clear HB
                              have HO_8 := n0_
                              have HB := n1_
                              clear n0_ n1_
                              go_region_with (first | (go_at_call 44; with_reducible refine (spec_l14Ranked.calls k1 _ _ l1 (rdOf ByteArray.empty l0 x36_1) t181 _ (Kd.C_below HR1.out HB.out) HC1.out A14.out).mono ?_; rintro e w26 ⟨vA_, rfl, hoA_, hbA_⟩; obtain ⟨AoA_, coA_, eoA_⟩ := Kd.R_slice hoA_; subst eoA_; obtain ⟨ad_a, e_a, hx_a⟩ := Kd.at_int (Kd.R_reads' hoA_).2.2 0 (by omega) (by have := of_decide_eq_true c15b0; omega); cases e_a; rw [show ((0 : Int)).toNat = 0 from rfl, Addr.add_zero'] at hx_a; have qq_a : (0 < t181.length) = True := eq_true (by have := of_decide_eq_true c15b0; omega); have HAo := Aside0.mk hoA_; have HAb := Aside0.mk hbA_; clear hoA_ hbA_) | (go_at_call 44; with_reducible refine (spec_l14Ranked.calls k1 _ _ l2 (rdOf ByteArray.empty l0 x36_1) t185 _ (Kd.C_below HR2.out (below_step HB.out HAb.out)) HC2.out A16.out).mono ?_; rintro e w28 ⟨vB_, rfl, hoB_, hbB_⟩; obtain ⟨AoB_, coB_, eoB_⟩ := Kd.R_slice hoB_; subst eoB_; obtain ⟨ad_b, e_b, hx_b⟩ := Kd.at_int (Kd.R_reads' hoB_).2.2 0 (by omega) (by have := of_decide_eq_true c17b0; omega); cases e_b; rw [show ((0 : Int)).toNat = 0 from rfl, Addr.add_zero'] at hx_b; have qq_b : (0 < t185.length) = True := eq_true (by have := of_decide_eq_true c17b0; omega); have hx_a2 := (hbB_.cell (World.block_lt_of_cell? _ _ hx_a)).trans hx_a; have HBo := Aside0.mk hoB_; have HBb := Aside0.mk hbB_; clear hoB_ hbB_))
                              all_goals (have n0_ := Aside0.mk (Kd.R_below (Kd.R_below HO_8.out HAb.out) HBb.out); have n1_ := Aside0.mk (below_step (below_step HB.out HAb.out) HBb.out); have HO183 := Aside0.mk (Kd.R_lower (Kd.R_below HAo.out HBb.out) (below_size HB.out)); have HO187 := Aside0.mk (Kd.R_lower HBo.out (below_size (below_step HB.out HAb.out))); clear HO_8; clear HB; have HO_8 := n0_; have HB := n1_; clear n0_ n1_; clear HAo HBo HAb HBb)
                              all_goals (
                                try go_wp2_with (first | ((with_reducible refine gate_builtin (b := .append) (xs := #[.tmp 51, .tmp 53]) rfl ?_); (try (refine gate_guard (by rfl) ?_; dsimp only)); at_builtin; refine Kd.R_append Kd.string (w0 := w) w.heap.size rfl (.tmp 51) (.tmp 53) 31 9 (.string ⟨#[]⟩) 16 rfl Tryd.underlying31 info9 rfl (by decide) (by omega) u8 x8_1 (rdOf ByteArray.empty l0 x36_1) [.string (rdOf ByteArray.empty l0 x36_1)] (fun _ => True) (fun _ => False) rfl rfl ?aP (fun _ hk => hk.elim) ?aF ?aO ?aB ?aS ?aL ?_; (case aP => exact rfl); (case aB => exact (by repeat (first | (with_reducible first | exact HB.out | apply below_alloc | apply pw_below_drewN | apply below_drew1) | exact HB.out))); (case aF => exact (fun _ _ => trivial)); (case aO => exact (by (with_reducible repeat (first | apply Kd.R_alloc | apply Kd.R_drewN | apply Kd.R_drew)); exact HO_8.out)); (case aS => exact (below_size (by repeat (first | (with_reducible first | exact HB.out | apply below_alloc | apply pw_below_drewN | apply below_drew1) | exact HB.out)))); (case aL => have := LMc24.out; omega); intro v190 w30 ho hb hg hat; rw [← Ny189.out] at ho; have n0_ := Aside0.mk (Kd.R_over' (by (with_reducible repeat (first | apply Kd.R_alloc | apply Kd.R_drewN | apply Kd.R_drew)); exact HO183.out) (Kd.R_typed (by (with_reducible repeat (first | apply Kd.R_alloc | apply Kd.R_drewN | apply Kd.R_drew)); exact HO_8.out)) (by decide) hg); have n1_ := Aside0.mk (Kd.R_over' (by (with_reducible repeat (first | apply Kd.R_alloc | apply Kd.R_drewN | apply Kd.R_drew)); exact HO187.out) (Kd.R_typed (by (with_reducible repeat (first | apply Kd.R_alloc | apply Kd.R_drewN | apply Kd.R_drew)); exact HO_8.out)) (by decide) hg); have n2_ := Aside0.mk (hb); have n3_ := Aside0.mk (ho); clear HO183; clear HO187; clear HB; clear HO_8; have HO183 := n0_; have HO187 := n1_; have HB := n2_; have HO191 := n3_; clear n0_ n1_ n2_ n3_; clear ho hb hg hat))
                                go_roundg k1
                                case measure => have := HK1.out; omega
                                case rel => exact ⟨(y189), (wrap64 (x36_1 + 1)), (by first | rfl | (simp; done) | (simp [*]; done)), H', ⟨by have := HK1.out; omega⟩, ⟨by (with_reducible repeat (first | apply Kd.R_alloc | apply Kd.R_drewN | apply Kd.R_drew)); exact HO191.out⟩, ⟨by repeat (first | (with_reducible first | exact HB.out | apply below_alloc | apply pw_below_drewN | apply below_drew1) | exact HB.out)⟩⟩)
                            · rw [if_neg c24] at H
                              exact absurd H (by simp)
                        · rw [if_neg c17] at H
                          exact absurd H (by simp)
                      · rw [if_neg c15] at H
                        exact absurd H (by simp)
                    · rw [if_neg c13] at H
                      exact absurd H (by simp)
                  · rw [if_neg c12] at H
                    exact absurd H (by simp)
                · rw [if_neg c11] at H
                  have c11b0 : decide (x36_1 < (l0.length : Int)) = false := decide_eq_false c11
                  clear c11
                  simp only [Option.some.injEq, Prod.mk.injEq] at H
                  obtain ⟨rfl, rfl⟩ := H
                  go_wp2
                  go_ret2
                  exact ⟨_, by first | rfl | (simp [errW_none, errW_some] <;> rfl) | (simp [*, errW_none, errW_some] <;> rfl), by (with_reducible repeat (first | apply Kd.R_alloc | apply Kd.R_drewN | apply Kd.R_drew)); exact HO_8.out, by repeat (first | (with_reducible first | exact HB.out | apply below_alloc | apply pw_below_drewN | apply below_drew1) | exact HB.out)⟩
    · replace c7 := Bool.eq_false_iff.mpr c7
      subst c7
      have H1 : (some (([] : List ByteArray), false)) = some (r1, r2) := by rw [if_neg (show ¬ (false = true) by decide)] at H; exact H
      clear H
      have H := H1
      clear H1
      simp only [Option.some.injEq, Prod.mk.injEq] at H
      obtain ⟨rfl, rfl⟩ := H
      go_enter Tryd.func18, Tryd.ntmps18
      go_wp2_with (first | ((with_reducible refine gate_callee (f := 43) rfl ?_); refine goesL_ (some 12) rfl rfl Tryd.func43 (by kernel_rfl) rfl #[.slice A1 l1.length c1] rfl (by (try simp only [List.map_toArray, List.map_cons, List.map_nil]); first | done | rfl | (simp only [List.length_drop, List.length_take]; rfl)) ?_; (with_reducible refine (spec_l14Servers.calls k _ _ l1 true _ ?side1 ?side2 A4.out).mono ?_); (case side1 => repeat (first | exact HR1.out | (with_reducible refine Kd.C_alloc ?_ _) | (with_reducible refine Kd.C_drewN ?_ _) | (with_reducible refine Kd.C_drew ?_))); (case side2 => exact HC1.out); rintro e w' ⟨rfl, ⟨nd, rfl⟩⟩; refine ⟨_, rfl, ?_⟩) | (go_at_call 43; (with_reducible refine (spec_l14Servers.calls k _ _ l2 false _ ?side1 ?side2 A6.out).mono ?_); (case side1 => repeat (first | exact HR2.out | (with_reducible refine Kd.C_alloc ?_ _) | (with_reducible refine Kd.C_drewN ?_ _) | (with_reducible refine Kd.C_drew ?_))); (case side2 => exact HC2.out); rintro e w' ⟨rfl, ⟨nd, rfl⟩⟩))
      go_ret2
      exact ⟨_, by first | rfl | (simp [errW_none, errW_some] <;> rfl) | (simp [*, errW_none, errW_some] <;> rfl), by first | exact Kd.R_nil _ _ _ _ _ | exact Kd.N_nil _ _ _ _ _ | exact Kd.V_nil _ _ _ _ _ | exact Kd.Q_nil _ _ _ _ _ | exact Kd.S_nil _ _ _ _ _, by repeat (first | (with_reducible first | exact HB.out | apply below_alloc | apply pw_below_drewN | apply below_drew1) | exact HB.out)⟩
  · replace c5 := Bool.eq_false_iff.mpr c5
    subst c5
    have H1 : (some (([] : List ByteArray), false)) = some (r1, r2) := by rw [if_neg (show ¬ (false = true) by decide)] at H; exact H
    clear H
    have H := H1
    clear H1
    simp only [Option.some.injEq, Prod.mk.injEq] at H
    obtain ⟨rfl, rfl⟩ := H
    go_enter Tryd.func18, Tryd.ntmps18
    go_wp2_with (first | ((with_reducible refine gate_callee (f := 43) rfl ?_); refine goesL_ (some 12) rfl rfl Tryd.func43 (by kernel_rfl) rfl #[.slice A1 l1.length c1] rfl (by (try simp only [List.map_toArray, List.map_cons, List.map_nil]); first | done | rfl | (simp only [List.length_drop, List.length_take]; rfl)) ?_; (with_reducible refine (spec_l14Servers.calls k _ _ l1 false _ ?side1 ?side2 A4.out).mono ?_); (case side1 => repeat (first | exact HR1.out | (with_reducible refine Kd.C_alloc ?_ _) | (with_reducible refine Kd.C_drewN ?_ _) | (with_reducible refine Kd.C_drew ?_))); (case side2 => exact HC1.out); rintro e w' ⟨rfl, ⟨nd, rfl⟩⟩; refine ⟨_, rfl, ?_⟩))
    go_ret2
    exact ⟨_, by first | rfl | (simp [errW_none, errW_some] <;> rfl) | (simp [*, errW_none, errW_some] <;> rfl), by first | exact Kd.R_nil _ _ _ _ _ | exact Kd.N_nil _ _ _ _ _ | exact Kd.V_nil _ _ _ _ _ | exact Kd.Q_nil _ _ _ _ _ | exact Kd.S_nil _ _ _ _ _, by repeat (first | (with_reducible first | exact HB.out | apply below_alloc | apply pw_below_drewN | apply below_drew1) | exact HB.out)⟩

end Go.Proofs.YtfopmaiednikhaaDoor.PFnRendezvous
