-- written by a program of this session (wip/tool)
import Derived.Test.YthneflfbafieeaaGreatDoorPFnTornx0
import Derived.Test.YthneflfbafieeaaGreatDoorPFnTornx2
import Derived.Test.YthneflfbafieeaaGreatDoorPFnTornx3
import Derived.Test.YthneflfbafieeaaGreatDoorPFnTornx4
import Derived.Test.YthneflfbafieeaaGreatDoorPFnTornx6
import Derived.Test.YthneflfbafieeaaGreatDoorVOwn0
import Derived.Test.YthneflfbafieeaaGreatDoorVOwnOpen
import Derived.WalkKit
import Derived.BigCall
import Derived.Test.YthneflfbafieeaaGreatDoorOwnTr
import Derived.Test.YthneflfbafieeaaGreatDoorVOwnShort
import Derived.Test.YthneflfbafieeaaGreatDoorOwnSq
namespace Go.Proofs.YthneflfbafieeaaGreatDoor.PFnTorn
open Go.RowKit Go.Proofs.YthneflfbafieeaaGreatDoorW.PrintWords Go.Proofs.YthneflfbafieeaaGreatDoorW.PrintLast Go.Proofs.YthneflfbafieeaaGreatDoorW.PrintMore Go.Shelf Go.Proofs.YthneflfbafieeaaGreatDoorOwn
attribute [local go_sem] max2_int min2_int max_two min_two max_three min_three max_four min_four   -- for this text's walks alone
set_option linter.unusedVariables false
set_option linter.unusedSimpArgs false

/-! ### spec_l4Rest: function 28 -/
mutual
def spec_l4Rest.l0 : Nat → ByteArray → Int → List (S75) → List ByteArray → Int → Int → Option ((List (S75)) × ByteArray × Int × Int)
 | 0, _, _, _, _, _, _ => none
 | k + 1, x0, x2, x10, x18, x19, x20 => if x20 < x19 then (if 0 ≤ x20 then (if x20 < (x18.length : Int) then ((spec_l1Cut.f k (rdOf ByteArray.empty x18 x20) 58).bind fun bt140 => ((spec_l3Trim.f k bt140.2.1).bind fun t143 => (if bt140.2.2 = true then ((spec_GoodField.f k bt140.1 t143).bind fun t145 => (if t145 = true then (if (x10.length : Int) = 40 then (some (([] : List (S75)), (⟨#[]⟩ : ByteArray), 0, 3)) else ((spec_l3Is.f bt140.1 t143 (⟨#[116, 114, 97, 110, 115, 102, 101, 114, 45, 101, 110, 99, 111, 100, 105, 110, 103]⟩ : ByteArray)).bind fun t146 => (if t146 = true then (some (([] : List (S75)), (⟨#[]⟩ : ByteArray), 0, 3)) else (if x10.length < 4398046511104 then (spec_l4Rest.l0 k x0 x2 (x10 ++ [(⟨bt140.1, t143⟩ : S75)]) x18 x19 (wrap64 (x20 + 1))) else (none))))) else (some (([] : List (S75)), (⟨#[]⟩ : ByteArray), 0, 3)))) else (some (([] : List (S75)), (⟨#[]⟩ : ByteArray), 0, 3))))) else (none)) else (none)) else ((spec_l4Length.f k x10).bind fun t150 => (if t150 = (-1) then (spec_l4Rest.j1 k x0 x2 x10 0) else (spec_l4Rest.j1 k x0 x2 x10 t150)))
def spec_l4Rest.j1 : Nat → ByteArray → Int → List (S75) → Int → Option ((List (S75)) × ByteArray × Int × Int)
 | 0, _, _, _, _ => none
 | k + 1, x0, x2, x10, x17 => (spec_l1In.f x17 0 300).bind fun t151 => (if t151 = true then (if (wrap64 ((x0.size : Int) - x2)) < x17 then (some (([] : List (S75)), (⟨#[]⟩ : ByteArray), 0, 1)) else (if 0 ≤ x2 then (if x2 ≤ (wrap64 (x2 + x17)) then (if (wrap64 (x2 + x17)) ≤ (x0.size : Int) then (some (x10, x0.extract (x2 : Int).toNat ((wrap64 (x2 + x17)) : Int).toNat, wrap64 (x2 + x17), 0)) else (none)) else (none)) else (none))) else (some (([] : List (S75)), (⟨#[]⟩ : ByteArray), 0, 4)))
end
def spec_l4Rest.f (k : Nat) (a0 : ByteArray) (l1 : List ByteArray) (a2 : Int) : Option ((List (S75)) × ByteArray × Int × Int) := spec_l4Rest.l0 k a0 a2 ([] : List (S75)) l1 (l1.length : Int) 0
theorem spec_l4Rest.mono_l : ∀ k, (∀ y0 y1 y2 y3 y4 y5, LeO (spec_l4Rest.l0 k y0 y1 y2 y3 y4 y5) (spec_l4Rest.l0 (k + 1) y0 y1 y2 y3 y4 y5)) ∧ (∀ y0 y1 y2 y3, LeO (spec_l4Rest.j1 k y0 y1 y2 y3) (spec_l4Rest.j1 (k + 1) y0 y1 y2 y3))
 | 0 => ⟨fun _ _ _ _ _ _ r h => by simp [spec_l4Rest.l0] at h, fun _ _ _ _ r h => by simp [spec_l4Rest.j1] at h⟩
 | k + 1 => by
  obtain ⟨ih0, ih1⟩ := spec_l4Rest.mono_l k
  refine ⟨?_, ?_⟩
  ·intro y0 y1 y2 y3 y4 y5
   unfold spec_l4Rest.l0
   repeat' with_reducible first | exact ih0 _ _ _ _ _ _ | exact ih1 _ _ _ _ | exact spec_GoodField.mono _ _ _ | exact spec_l1Cut.mono _ _ _ | exact spec_l3Trim.mono _ _ | exact spec_l4Length.mono _ _ | exact LeO.refl _ | exact LeO.none _ | refine LeO.ite ?_ ?_ | refine LeO.bind ?_ (fun _ => ?_)
  ·intro y0 y1 y2 y3
   unfold spec_l4Rest.j1
   repeat' with_reducible first | exact ih0 _ _ _ _ _ _ | exact ih1 _ _ _ _ | exact spec_GoodField.mono _ _ _ | exact spec_l1Cut.mono _ _ _ | exact spec_l3Trim.mono _ _ | exact spec_l4Length.mono _ _ | exact LeO.refl _ | exact LeO.none _ | refine LeO.ite ?_ ?_ | refine LeO.bind ?_ (fun _ => ?_)
theorem spec_l4Rest.mono : ∀ a0 a1 a2 k, LeO (spec_l4Rest.f k a0 a1 a2) (spec_l4Rest.f (k + 1) a0 a1 a2) := by
 intro a0 a1 a2 k
 obtain ⟨ih0, ih1⟩ := spec_l4Rest.mono_l k
 unfold spec_l4Rest.f
 repeat' with_reducible first | exact ih0 _ _ _ _ _ _ | exact ih1 _ _ _ _ | exact spec_GoodField.mono _ _ _ | exact spec_l1Cut.mono _ _ _ | exact spec_l3Trim.mono _ _ | exact spec_l4Length.mono _ _ | exact LeO.refl _ | exact LeO.none _ | refine LeO.ite ?_ ?_ | refine LeO.bind ?_ (fun _ => ?_)
set_option maxHeartbeats 8000000 in
set_option maxRecDepth 100000 in
theorem spec_l4Rest.calls (k : Nat) (a0 : ByteArray) (A1 : Option Addr) (c1 : Nat) (l1 : List ByteArray) (a2 : Int) (r1 : List (S75)) (r2 : ByteArray) (r3 : Int) (r4 : Int) (w : World) (hr1 : Kd.C Kd.string w A1 l1.length l1) (hc1 : l1.length ≤ c1) (h : spec_l4Rest.f k a0 l1 a2 = some (r1, r2, r3, r4)) :
  Calls Tryz.prog 28 #[.string a0, .slice A1 l1.length c1, .int .i64 a2] w fun e w' => ∃ v0_ : Value, e = .returned (.tuple #[v0_, .string r2, .int .i64 r3, .int .i64 r4]) ∧ Kd.R k75 75 w' w.heap.size (fun _ => True) v0_ r1 ∧ Below w.heap.size w w' := by
 have hu75 := Tryz.underlying75
 have HR1 := ak hr1
 have HC1 := ak hc1
 clear hr1 hc1
 have HB := ak (Below.refl w.heap.size w)
 have H : (spec_l4Rest.l0 k a0 a2 ([] : List (S75)) l1 (l1.length : Int) 0) = some (r1, r2, r3, r4) := h
 clear h
 have H' := ak H
 clear H
 go_enter Tryz.func28, Tryz.ntmps28
 go_wp2
 repeat (go_quiet (fail); try go_wp2)
 go_loopg [10, 20] k (fun kq v10 v20 w' => ∃ (x10_1 : List (S75)) (x20_1 : Int), v20 = .int .i64 x20_1 ∧ Aside0 (spec_l4Rest.l0 kq a0 a2 x10_1 l1 (l1.length : Int) x20_1 = some (r1, r2, r3, r4)) ∧ Aside0 (kq ≤ k) ∧ Aside0 (Kd.R k75 75 w' w.heap.size (fun _ => True) v10 x10_1) ∧ Aside0 (Below w.heap.size w w'))
 case atStart => exact ⟨(([] : List (S75))), (0), (by first | rfl | (simp; done) | (simp [*]; done)), H', ⟨Nat.le_refl _⟩, ⟨by first | exact Kd.R_nil _ _ _ _ _ | exact Kd.N_nil _ _ _ _ _ | exact Kd.V_nil _ _ _ _ _ | exact Kd.Q_nil _ _ _ _ _ | exact Kd.S_nil _ _ _ _ _⟩, ⟨bl HB.out⟩⟩
 case round =>
  clear H'
  try clear c1
  try clear c2
  try clear p2
  obtain ⟨x10_1, x20_1, rfl, HA, HK1, HO_10, HB⟩ := hrel
  cases gk with
  | zero => exact absurd HA.out (by simp [spec_l4Rest.l0])
  | succ k1 =>
   have H := HA.out
   clear HA
   simp only [spec_l4Rest.l0] at H
   by_cases c4 : x20_1 < (l1.length : Int)
   ·rw [if_pos c4] at H
    have c4b0 : decide (x20_1 < (l1.length : Int)) = true := decide_eq_true c4
    clear c4
    by_cases c5 : 0 ≤ x20_1
    ·rw [if_pos c5] at H
     have c5b0 : decide (0 ≤ x20_1) = true := decide_eq_true c5
     clear c5
     by_cases c6 : x20_1 < (l1.length : Int)
     ·rw [if_pos c6] at H
      have c6b0 : decide (x20_1 < (l1.length : Int)) = true := decide_eq_true c6
      clear c6
      replace H := bs H
      obtain ⟨⟨t140, t141, t142⟩, A7, H⟩ := H
      try dsimp only at H
      replace H := bs H
      obtain ⟨t143, A8, H⟩ := H
      try dsimp only at H
      by_cases c9 : t142 = true
      ·subst c9
       rw [if_pos rfl] at H
       replace H := bs H
       obtain ⟨t145, A10, H⟩ := H
       try dsimp only at H
       by_cases c11 : t145 = true
       ·subst c11
        rw [if_pos rfl] at H
        by_cases c12 : (x10_1.length : Int) = 40
        ·rw [if_pos c12] at H
         have c12b0 : ((x10_1.length : Int) == 40) = true := beq_iff_eq.mpr c12
         have c12b1 : ((x10_1.length : Int) != 40) = false := bne_eq_false_iff_eq.mpr c12
         clear c12
         simp only [Option.some.injEq, Prod.mk.injEq] at H
         obtain ⟨rfl, rfl, rfl, rfl⟩ := H
         have p139 : 0 ≤ (x20_1 : Int) := od
         have q139 : x20_1 < (l1.length : Int) := od
         obtain ⟨ad139, e139, hx139_0⟩ := Kd.at_string HR1.out x20_1 p139 q139
         cases e139
         replace hx139_0 := (HB.out.cell (World.block_lt_of_cell? w _ hx139_0)).trans hx139_0
         replace p139 := eq_true p139
         replace q139 := eq_true q139
         go_wp2_with (first | (go_at_call 25; (with_reducible refine (spec_l1Cut.calls k1 (rdOf ByteArray.empty l1 x20_1) 58 t140 t141 true _ A7.out).mono ?_); rintro e w' ⟨rfl, ⟨nd, rfl⟩⟩; (try first | exact ⟨rfl, _, World.drewN_drewN _ _ _⟩ | exact ⟨rfl, _, Eq.trans (World.drewN_drewN _ _ _) (congrArg (World.drewN _) (Nat.add_assoc _ _ _))⟩)) | (go_at_call 59; (with_reducible refine (spec_l3Trim.calls k1 t141 t143 _ A8.out).mono ?_); rintro e w' ⟨rfl, ⟨nd, rfl⟩⟩; (try first | exact ⟨rfl, _, World.drewN_drewN _ _ _⟩ | exact ⟨rfl, _, Eq.trans (World.drewN_drewN _ _ _) (congrArg (World.drewN _) (Nat.add_assoc _ _ _))⟩)) | ((with_reducible refine gd 16 ?_); (try (refine gate_guard (by rfl) ?_; dsimp only)); refine bE 16 #[.string (⟨#[]⟩ : ByteArray), .string (⟨#[]⟩ : ByteArray)] 75 ?_; intro gb144 hg w13 hbox hb; replace HO_10 := ak (Kd.R_below (Kd.R_elderB (kr HO_10.out) gb144 (Nat.le_of_eq hg.symm)) hb); have BK144 := ak hbox; have GW144 := gs hg (bl HB.out); have GE144 := gs hg (bl HB.out); replace HB := ak (below_step (bl HB.out) hb); clear hb hbox hg; obtain ⟨hcz14_0, hcz14_1, hfz14_0, hfz14_1⟩ := b2 BK144.out) | (go_at_call 60; (with_reducible refine (spec_GoodField.calls k1 t140 t143 true _ A10.out).mono ?_); rintro e w15 ⟨rfl, hb⟩; replace HO_10 := ak (Kd.R_below (by (with_reducible repeat (first | apply Kd.R_alloc | apply Kd.R_drewN | apply Kd.R_drew)); exact (Kd.R_mono (Kd.R_far (p := ⟨gb144, 1, none⟩) (Kd.R_far (p := ⟨gb144, 0, none⟩) (Kd.R_mono HO_10.out (fun k_ hk => (⟨hk, hk.2⟩ : _ ∧ k_ ≠ gb144))) (fun _ hk => hk.2) (.string t140)) (fun _ hk => hk.2) (.string t143)) (fun _ h_ => h_.1))) hb); replace BK144 := ak (blk_below (g := gb144) (o := .cells #[.string t140, .string t143] 75 (0, 0)) (bq BK144.out) hb); replace HB := ak (below_step (bl1 HB.out GE144.out) hb); clear hb; obtain ⟨Ao16, co16, eo16⟩ := Kd.R_slice HO_10.out; subst eo16))
         repeat (go_quiet (first | (go_at_call 25; (with_reducible refine (spec_l1Cut.calls k1 (rdOf ByteArray.empty l1 x20_1) 58 t140 t141 true _ A7.out).mono ?_); rintro e w' ⟨rfl, ⟨nd, rfl⟩⟩; (try first | exact ⟨rfl, _, World.drewN_drewN _ _ _⟩ | exact ⟨rfl, _, Eq.trans (World.drewN_drewN _ _ _) (congrArg (World.drewN _) (Nat.add_assoc _ _ _))⟩)) | (go_at_call 59; (with_reducible refine (spec_l3Trim.calls k1 t141 t143 _ A8.out).mono ?_); rintro e w' ⟨rfl, ⟨nd, rfl⟩⟩; (try first | exact ⟨rfl, _, World.drewN_drewN _ _ _⟩ | exact ⟨rfl, _, Eq.trans (World.drewN_drewN _ _ _) (congrArg (World.drewN _) (Nat.add_assoc _ _ _))⟩)) | ((with_reducible refine gd 16 ?_); (try (refine gate_guard (by rfl) ?_; dsimp only)); refine bE 16 #[.string (⟨#[]⟩ : ByteArray), .string (⟨#[]⟩ : ByteArray)] 75 ?_; intro gb144 hg w13 hbox hb; replace HO_10 := ak (Kd.R_below (Kd.R_elderB (kr HO_10.out) gb144 (Nat.le_of_eq hg.symm)) hb); have BK144 := ak hbox; have GW144 := gs hg (bl HB.out); have GE144 := gs hg (bl HB.out); replace HB := ak (below_step (bl HB.out) hb); clear hb hbox hg; obtain ⟨hcz14_0, hcz14_1, hfz14_0, hfz14_1⟩ := b2 BK144.out) | (go_at_call 60; (with_reducible refine (spec_GoodField.calls k1 t140 t143 true _ A10.out).mono ?_); rintro e w15 ⟨rfl, hb⟩; replace HO_10 := ak (Kd.R_below (by (with_reducible repeat (first | apply Kd.R_alloc | apply Kd.R_drewN | apply Kd.R_drew)); exact (Kd.R_mono (Kd.R_far (p := ⟨gb144, 1, none⟩) (Kd.R_far (p := ⟨gb144, 0, none⟩) (Kd.R_mono HO_10.out (fun k_ hk => (⟨hk, hk.2⟩ : _ ∧ k_ ≠ gb144))) (fun _ hk => hk.2) (.string t140)) (fun _ hk => hk.2) (.string t143)) (fun _ h_ => h_.1))) hb); replace BK144 := ak (blk_below (g := gb144) (o := .cells #[.string t140, .string t143] 75 (0, 0)) (bq BK144.out) hb); replace HB := ak (below_step (bl1 HB.out GE144.out) hb); clear hb; obtain ⟨Ao16, co16, eo16⟩ := Kd.R_slice HO_10.out; subst eo16)); try go_wp2_with (first | (go_at_call 25; (with_reducible refine (spec_l1Cut.calls k1 (rdOf ByteArray.empty l1 x20_1) 58 t140 t141 true _ A7.out).mono ?_); rintro e w' ⟨rfl, ⟨nd, rfl⟩⟩; (try first | exact ⟨rfl, _, World.drewN_drewN _ _ _⟩ | exact ⟨rfl, _, Eq.trans (World.drewN_drewN _ _ _) (congrArg (World.drewN _) (Nat.add_assoc _ _ _))⟩)) | (go_at_call 59; (with_reducible refine (spec_l3Trim.calls k1 t141 t143 _ A8.out).mono ?_); rintro e w' ⟨rfl, ⟨nd, rfl⟩⟩; (try first | exact ⟨rfl, _, World.drewN_drewN _ _ _⟩ | exact ⟨rfl, _, Eq.trans (World.drewN_drewN _ _ _) (congrArg (World.drewN _) (Nat.add_assoc _ _ _))⟩)) | ((with_reducible refine gd 16 ?_); (try (refine gate_guard (by rfl) ?_; dsimp only)); refine bE 16 #[.string (⟨#[]⟩ : ByteArray), .string (⟨#[]⟩ : ByteArray)] 75 ?_; intro gb144 hg w13 hbox hb; replace HO_10 := ak (Kd.R_below (Kd.R_elderB (kr HO_10.out) gb144 (Nat.le_of_eq hg.symm)) hb); have BK144 := ak hbox; have GW144 := gs hg (bl HB.out); have GE144 := gs hg (bl HB.out); replace HB := ak (below_step (bl HB.out) hb); clear hb hbox hg; obtain ⟨hcz14_0, hcz14_1, hfz14_0, hfz14_1⟩ := b2 BK144.out) | (go_at_call 60; (with_reducible refine (spec_GoodField.calls k1 t140 t143 true _ A10.out).mono ?_); rintro e w15 ⟨rfl, hb⟩; replace HO_10 := ak (Kd.R_below (by (with_reducible repeat (first | apply Kd.R_alloc | apply Kd.R_drewN | apply Kd.R_drew)); exact (Kd.R_mono (Kd.R_far (p := ⟨gb144, 1, none⟩) (Kd.R_far (p := ⟨gb144, 0, none⟩) (Kd.R_mono HO_10.out (fun k_ hk => (⟨hk, hk.2⟩ : _ ∧ k_ ≠ gb144))) (fun _ hk => hk.2) (.string t140)) (fun _ hk => hk.2) (.string t143)) (fun _ h_ => h_.1))) hb); replace BK144 := ak (blk_below (g := gb144) (o := .cells #[.string t140, .string t143] 75 (0, 0)) (bq BK144.out) hb); replace HB := ak (below_step (bl1 HB.out GE144.out) hb); clear hb; obtain ⟨Ao16, co16, eo16⟩ := Kd.R_slice HO_10.out; subst eo16)))
         refine bodyPost_ret (results_list (rs := [.tmp 6, .tmp 7, .tmp 8, .tmp 9]) rfl (by simp) (.tmp (.tmp (.tmp (.tmp .nil))))) rfl ?_
         exact ⟨_, by first | rfl | (simp [errW_none, errW_some] <;> rfl) | (simp [*, errW_none, errW_some] <;> rfl), by first | exact Kd.R_nil _ _ _ _ _ | exact Kd.N_nil _ _ _ _ _ | exact Kd.V_nil _ _ _ _ _ | exact Kd.Q_nil _ _ _ _ _ | exact Kd.S_nil _ _ _ _ _, bl1 HB.out GE144.out⟩
        ·rw [if_neg c12] at H
         have c12b0 : ((x10_1.length : Int) == 40) = false := beq_eq_false_iff_ne.mpr c12
         have c12b1 : ((x10_1.length : Int) != 40) = true := bne_iff_ne.mpr c12
         replace H := bs H
         obtain ⟨t146, A17, H⟩ := H
         try dsimp only at H
         by_cases c18 : t146 = true
         ·subst c18
          rw [if_pos rfl] at H
          simp only [Option.some.injEq, Prod.mk.injEq] at H
          obtain ⟨rfl, rfl, rfl, rfl⟩ := H
          have p139 : 0 ≤ (x20_1 : Int) := od
          have q139 : x20_1 < (l1.length : Int) := od
          obtain ⟨ad139, e139, hx139_0⟩ := Kd.at_string HR1.out x20_1 p139 q139
          cases e139
          replace hx139_0 := (HB.out.cell (World.block_lt_of_cell? w _ hx139_0)).trans hx139_0
          replace p139 := eq_true p139
          replace q139 := eq_true q139
          go_wp2_with (first | (go_at_call 25; (with_reducible refine (spec_l1Cut.calls k1 (rdOf ByteArray.empty l1 x20_1) 58 t140 t141 true _ A7.out).mono ?_); rintro e w' ⟨rfl, ⟨nd, rfl⟩⟩; (try first | exact ⟨rfl, _, World.drewN_drewN _ _ _⟩ | exact ⟨rfl, _, Eq.trans (World.drewN_drewN _ _ _) (congrArg (World.drewN _) (Nat.add_assoc _ _ _))⟩)) | (go_at_call 59; (with_reducible refine (spec_l3Trim.calls k1 t141 t143 _ A8.out).mono ?_); rintro e w' ⟨rfl, ⟨nd, rfl⟩⟩; (try first | exact ⟨rfl, _, World.drewN_drewN _ _ _⟩ | exact ⟨rfl, _, Eq.trans (World.drewN_drewN _ _ _) (congrArg (World.drewN _) (Nat.add_assoc _ _ _))⟩)) | ((with_reducible refine gd 16 ?_); (try (refine gate_guard (by rfl) ?_; dsimp only)); refine bE 16 #[.string (⟨#[]⟩ : ByteArray), .string (⟨#[]⟩ : ByteArray)] 75 ?_; intro gb144 hg w19 hbox hb; replace HO_10 := ak (Kd.R_below (Kd.R_elderB (kr HO_10.out) gb144 (Nat.le_of_eq hg.symm)) hb); have BK144 := ak hbox; have GW144 := gs hg (bl HB.out); have GE144 := gs hg (bl HB.out); replace HB := ak (below_step (bl HB.out) hb); clear hb hbox hg; obtain ⟨hcz20_0, hcz20_1, hfz20_0, hfz20_1⟩ := b2 BK144.out) | (go_at_call 60; (with_reducible refine (spec_GoodField.calls k1 t140 t143 true _ A10.out).mono ?_); rintro e w21 ⟨rfl, hb⟩; replace HO_10 := ak (Kd.R_below (by (with_reducible repeat (first | apply Kd.R_alloc | apply Kd.R_drewN | apply Kd.R_drew)); exact (Kd.R_mono (Kd.R_far (p := ⟨gb144, 1, none⟩) (Kd.R_far (p := ⟨gb144, 0, none⟩) (Kd.R_mono HO_10.out (fun k_ hk => (⟨hk, hk.2⟩ : _ ∧ k_ ≠ gb144))) (fun _ hk => hk.2) (.string t140)) (fun _ hk => hk.2) (.string t143)) (fun _ h_ => h_.1))) hb); replace BK144 := ak (blk_below (g := gb144) (o := .cells #[.string t140, .string t143] 75 (0, 0)) (bq BK144.out) hb); replace HB := ak (below_step (bl1 HB.out GE144.out) hb); clear hb; obtain ⟨Ao22, co22, eo22⟩ := Kd.R_slice HO_10.out; subst eo22; obtain ⟨hcz23_0, hcz23_1, hfz23_0, hfz23_1⟩ := b2 BK144.out) | (go_at_call 61; (with_reducible refine (spec_l3Is.calls t140 t143 (⟨#[116, 114, 97, 110, 115, 102, 101, 114, 45, 101, 110, 99, 111, 100, 105, 110, 103]⟩ : ByteArray) true _ A17.out).mono ?_); rintro e w24 ⟨rfl, hb⟩; replace HO_10 := ak (Kd.R_below (kr HO_10.out) hb); replace BK144 := ak (blk_below (bk BK144.out) hb); replace HB := ak (below_step (bl1 HB.out GE144.out) hb); clear hb))
          repeat (go_quiet (first | (go_at_call 25; (with_reducible refine (spec_l1Cut.calls k1 (rdOf ByteArray.empty l1 x20_1) 58 t140 t141 true _ A7.out).mono ?_); rintro e w' ⟨rfl, ⟨nd, rfl⟩⟩; (try first | exact ⟨rfl, _, World.drewN_drewN _ _ _⟩ | exact ⟨rfl, _, Eq.trans (World.drewN_drewN _ _ _) (congrArg (World.drewN _) (Nat.add_assoc _ _ _))⟩)) | (go_at_call 59; (with_reducible refine (spec_l3Trim.calls k1 t141 t143 _ A8.out).mono ?_); rintro e w' ⟨rfl, ⟨nd, rfl⟩⟩; (try first | exact ⟨rfl, _, World.drewN_drewN _ _ _⟩ | exact ⟨rfl, _, Eq.trans (World.drewN_drewN _ _ _) (congrArg (World.drewN _) (Nat.add_assoc _ _ _))⟩)) | ((with_reducible refine gd 16 ?_); (try (refine gate_guard (by rfl) ?_; dsimp only)); refine bE 16 #[.string (⟨#[]⟩ : ByteArray), .string (⟨#[]⟩ : ByteArray)] 75 ?_; intro gb144 hg w19 hbox hb; replace HO_10 := ak (Kd.R_below (Kd.R_elderB (kr HO_10.out) gb144 (Nat.le_of_eq hg.symm)) hb); have BK144 := ak hbox; have GW144 := gs hg (bl HB.out); have GE144 := gs hg (bl HB.out); replace HB := ak (below_step (bl HB.out) hb); clear hb hbox hg; obtain ⟨hcz20_0, hcz20_1, hfz20_0, hfz20_1⟩ := b2 BK144.out) | (go_at_call 60; (with_reducible refine (spec_GoodField.calls k1 t140 t143 true _ A10.out).mono ?_); rintro e w21 ⟨rfl, hb⟩; replace HO_10 := ak (Kd.R_below (by (with_reducible repeat (first | apply Kd.R_alloc | apply Kd.R_drewN | apply Kd.R_drew)); exact (Kd.R_mono (Kd.R_far (p := ⟨gb144, 1, none⟩) (Kd.R_far (p := ⟨gb144, 0, none⟩) (Kd.R_mono HO_10.out (fun k_ hk => (⟨hk, hk.2⟩ : _ ∧ k_ ≠ gb144))) (fun _ hk => hk.2) (.string t140)) (fun _ hk => hk.2) (.string t143)) (fun _ h_ => h_.1))) hb); replace BK144 := ak (blk_below (g := gb144) (o := .cells #[.string t140, .string t143] 75 (0, 0)) (bq BK144.out) hb); replace HB := ak (below_step (bl1 HB.out GE144.out) hb); clear hb; obtain ⟨Ao22, co22, eo22⟩ := Kd.R_slice HO_10.out; subst eo22; obtain ⟨hcz23_0, hcz23_1, hfz23_0, hfz23_1⟩ := b2 BK144.out) | (go_at_call 61; (with_reducible refine (spec_l3Is.calls t140 t143 (⟨#[116, 114, 97, 110, 115, 102, 101, 114, 45, 101, 110, 99, 111, 100, 105, 110, 103]⟩ : ByteArray) true _ A17.out).mono ?_); rintro e w24 ⟨rfl, hb⟩; replace HO_10 := ak (Kd.R_below (kr HO_10.out) hb); replace BK144 := ak (blk_below (bk BK144.out) hb); replace HB := ak (below_step (bl1 HB.out GE144.out) hb); clear hb)); try go_wp2_with (first | (go_at_call 25; (with_reducible refine (spec_l1Cut.calls k1 (rdOf ByteArray.empty l1 x20_1) 58 t140 t141 true _ A7.out).mono ?_); rintro e w' ⟨rfl, ⟨nd, rfl⟩⟩; (try first | exact ⟨rfl, _, World.drewN_drewN _ _ _⟩ | exact ⟨rfl, _, Eq.trans (World.drewN_drewN _ _ _) (congrArg (World.drewN _) (Nat.add_assoc _ _ _))⟩)) | (go_at_call 59; (with_reducible refine (spec_l3Trim.calls k1 t141 t143 _ A8.out).mono ?_); rintro e w' ⟨rfl, ⟨nd, rfl⟩⟩; (try first | exact ⟨rfl, _, World.drewN_drewN _ _ _⟩ | exact ⟨rfl, _, Eq.trans (World.drewN_drewN _ _ _) (congrArg (World.drewN _) (Nat.add_assoc _ _ _))⟩)) | ((with_reducible refine gd 16 ?_); (try (refine gate_guard (by rfl) ?_; dsimp only)); refine bE 16 #[.string (⟨#[]⟩ : ByteArray), .string (⟨#[]⟩ : ByteArray)] 75 ?_; intro gb144 hg w19 hbox hb; replace HO_10 := ak (Kd.R_below (Kd.R_elderB (kr HO_10.out) gb144 (Nat.le_of_eq hg.symm)) hb); have BK144 := ak hbox; have GW144 := gs hg (bl HB.out); have GE144 := gs hg (bl HB.out); replace HB := ak (below_step (bl HB.out) hb); clear hb hbox hg; obtain ⟨hcz20_0, hcz20_1, hfz20_0, hfz20_1⟩ := b2 BK144.out) | (go_at_call 60; (with_reducible refine (spec_GoodField.calls k1 t140 t143 true _ A10.out).mono ?_); rintro e w21 ⟨rfl, hb⟩; replace HO_10 := ak (Kd.R_below (by (with_reducible repeat (first | apply Kd.R_alloc | apply Kd.R_drewN | apply Kd.R_drew)); exact (Kd.R_mono (Kd.R_far (p := ⟨gb144, 1, none⟩) (Kd.R_far (p := ⟨gb144, 0, none⟩) (Kd.R_mono HO_10.out (fun k_ hk => (⟨hk, hk.2⟩ : _ ∧ k_ ≠ gb144))) (fun _ hk => hk.2) (.string t140)) (fun _ hk => hk.2) (.string t143)) (fun _ h_ => h_.1))) hb); replace BK144 := ak (blk_below (g := gb144) (o := .cells #[.string t140, .string t143] 75 (0, 0)) (bq BK144.out) hb); replace HB := ak (below_step (bl1 HB.out GE144.out) hb); clear hb; obtain ⟨Ao22, co22, eo22⟩ := Kd.R_slice HO_10.out; subst eo22; obtain ⟨hcz23_0, hcz23_1, hfz23_0, hfz23_1⟩ := b2 BK144.out) | (go_at_call 61; (with_reducible refine (spec_l3Is.calls t140 t143 (⟨#[116, 114, 97, 110, 115, 102, 101, 114, 45, 101, 110, 99, 111, 100, 105, 110, 103]⟩ : ByteArray) true _ A17.out).mono ?_); rintro e w24 ⟨rfl, hb⟩; replace HO_10 := ak (Kd.R_below (kr HO_10.out) hb); replace BK144 := ak (blk_below (bk BK144.out) hb); replace HB := ak (below_step (bl1 HB.out GE144.out) hb); clear hb)))
          refine bodyPost_ret (results_list (rs := [.tmp 6, .tmp 7, .tmp 8, .tmp 9]) rfl (by simp) (.tmp (.tmp (.tmp (.tmp .nil))))) rfl ?_
          exact ⟨_, by first | rfl | (simp [errW_none, errW_some] <;> rfl) | (simp [*, errW_none, errW_some] <;> rfl), by first | exact Kd.R_nil _ _ _ _ _ | exact Kd.N_nil _ _ _ _ _ | exact Kd.V_nil _ _ _ _ _ | exact Kd.Q_nil _ _ _ _ _ | exact Kd.S_nil _ _ _ _ _, bl1 HB.out GE144.out⟩
         ·replace c18 := Bool.eq_false_iff.mpr c18
          subst c18
          rw [if_neg ff] at H
          by_cases c25 : x10_1.length < 4398046511104
          ·rw [if_pos c25] at H
           have LMc25 := ak c25
           clear c25
           obtain ⟨y147, hy147⟩ : ∃ y_ : List (S75), y_ = (x10_1 ++ [(⟨t140, t143⟩ : S75)]) := ⟨_, rfl⟩
           replace H : (spec_l4Rest.l0 k1 a0 a2 y147 l1 (l1.length : Int) (wrap64 (x20_1 + 1))) = some (r1, r2, r3, r4) := by first | (rw [hy147]; with_reducible exact H) | (have H2_ := (Option.bind_some _ _).symm.trans H; rw [hy147]; with_reducible exact H2_) | (have H2_ := (Option.bind_some _ _).symm.trans H; with_reducible exact H2_) | with_reducible exact H | (rw [hy147]; exact H) | exact H
           have Ny147 := ak hy147
           clear hy147
           have H' := ak H
           clear H
           have p139 : 0 ≤ (x20_1 : Int) := od
           have q139 : x20_1 < (l1.length : Int) := od
           obtain ⟨ad139, e139, hx139_0⟩ := Kd.at_string HR1.out x20_1 p139 q139
           cases e139
           replace hx139_0 := (HB.out.cell (World.block_lt_of_cell? w _ hx139_0)).trans hx139_0
           replace p139 := eq_true p139
           replace q139 := eq_true q139
           go_wp2_with (first | (go_at_call 25; (with_reducible refine (spec_l1Cut.calls k1 (rdOf ByteArray.empty l1 x20_1) 58 t140 t141 true _ A7.out).mono ?_); rintro e w' ⟨rfl, ⟨nd, rfl⟩⟩; (try first | exact ⟨rfl, _, World.drewN_drewN _ _ _⟩ | exact ⟨rfl, _, Eq.trans (World.drewN_drewN _ _ _) (congrArg (World.drewN _) (Nat.add_assoc _ _ _))⟩)) | (go_at_call 59; (with_reducible refine (spec_l3Trim.calls k1 t141 t143 _ A8.out).mono ?_); rintro e w' ⟨rfl, ⟨nd, rfl⟩⟩; (try first | exact ⟨rfl, _, World.drewN_drewN _ _ _⟩ | exact ⟨rfl, _, Eq.trans (World.drewN_drewN _ _ _) (congrArg (World.drewN _) (Nat.add_assoc _ _ _))⟩)) | ((with_reducible refine gd 16 ?_); (try (refine gate_guard (by rfl) ?_; dsimp only)); refine bE 16 #[.string (⟨#[]⟩ : ByteArray), .string (⟨#[]⟩ : ByteArray)] 75 ?_; intro gb144 hg w26 hbox hb; replace HO_10 := ak (Kd.R_below (Kd.R_elderB (kr HO_10.out) gb144 (Nat.le_of_eq hg.symm)) hb); have BK144 := ak hbox; have GW144 := gs hg (bl HB.out); have GE144 := gs hg (bl HB.out); replace HB := ak (below_step (bl HB.out) hb); clear hb hbox hg; obtain ⟨hcz27_0, hcz27_1, hfz27_0, hfz27_1⟩ := b2 BK144.out) | (go_at_call 60; (with_reducible refine (spec_GoodField.calls k1 t140 t143 true _ A10.out).mono ?_); rintro e w28 ⟨rfl, hb⟩; replace HO_10 := ak (Kd.R_below (by (with_reducible repeat (first | apply Kd.R_alloc | apply Kd.R_drewN | apply Kd.R_drew)); exact (Kd.R_mono (Kd.R_far (p := ⟨gb144, 1, none⟩) (Kd.R_far (p := ⟨gb144, 0, none⟩) (Kd.R_mono HO_10.out (fun k_ hk => (⟨hk, hk.2⟩ : _ ∧ k_ ≠ gb144))) (fun _ hk => hk.2) (.string t140)) (fun _ hk => hk.2) (.string t143)) (fun _ h_ => h_.1))) hb); replace BK144 := ak (blk_below (g := gb144) (o := .cells #[.string t140, .string t143] 75 (0, 0)) (bq BK144.out) hb); replace HB := ak (below_step (bl1 HB.out GE144.out) hb); clear hb; obtain ⟨Ao29, co29, eo29⟩ := Kd.R_slice HO_10.out; subst eo29; obtain ⟨hcz30_0, hcz30_1, hfz30_0, hfz30_1⟩ := b2 BK144.out) | (go_at_call 61; (with_reducible refine (spec_l3Is.calls t140 t143 (⟨#[116, 114, 97, 110, 115, 102, 101, 114, 45, 101, 110, 99, 111, 100, 105, 110, 103]⟩ : ByteArray) false _ A17.out).mono ?_); rintro e w31 ⟨rfl, hb⟩; replace HO_10 := ak (Kd.R_below (kr HO_10.out) hb); replace BK144 := ak (blk_below (bk BK144.out) hb); replace HB := ak (below_step (bl1 HB.out GE144.out) hb); clear hb; obtain ⟨hcz32_0, hcz32_1, hfz32_0, hfz32_1⟩ := b2 BK144.out) | ((with_reducible refine gate_builtin (b := .append) (xs := #[.tmp 50, .tmp 52]) rfl ?_); (try (refine gate_guard (by rfl) ?_; dsimp only)); at_builtin; refine Kd.R_append k75 (w0 := w) w.heap.size rfl (.tmp 50) (.tmp 52) 22 75 (.agg #[(.string ⟨#[]⟩), (.string ⟨#[]⟩)]) 32 rfl Tryz.underlying22 info75 rfl (by decide) (by omega) (.slice Ao29 x10_1.length co29) x10_1 (⟨t140, t143⟩ : S75) [.string t140, .string t143] (fun k_ => k_ ≠ gb144) (fun _ => False) rfl rfl ?aP (fun _ hk => hk.elim) ?aF ?aO ?aB ?aS ?aL ?_; (case aP => exact k75_mkM _ _ _ (⟨t140, t143⟩ : S75)); (case aB => exact (bl1 HB.out GE144.out)); (case aF => exact (fun k_ hk => Kd.freshB (bk BK144.out) k_ hk)); (case aO => exact (by (with_reducible repeat (first | apply Kd.R_alloc | apply Kd.R_drewN | apply Kd.R_drew)); exact Kd.R_mono HO_10.out (fun _ hk => hk.2))); (case aS => exact (below_size (bl1 HB.out GE144.out))); (case aL => have := LMc25.out; omega); intro v148 w33 ho hb hg hat; rw [← Ny147.out] at ho; replace BK144 := ak (blk_grown (bk BK144.out) hg (Kd.R_away HO_10.out (fun _ hk => hk.2))); replace HB := ak hb; have HO149 := ak ho; clear HO_10; clear ho hb hg hat))
           repeat (go_quiet (first | (go_at_call 25; (with_reducible refine (spec_l1Cut.calls k1 (rdOf ByteArray.empty l1 x20_1) 58 t140 t141 true _ A7.out).mono ?_); rintro e w' ⟨rfl, ⟨nd, rfl⟩⟩; (try first | exact ⟨rfl, _, World.drewN_drewN _ _ _⟩ | exact ⟨rfl, _, Eq.trans (World.drewN_drewN _ _ _) (congrArg (World.drewN _) (Nat.add_assoc _ _ _))⟩)) | (go_at_call 59; (with_reducible refine (spec_l3Trim.calls k1 t141 t143 _ A8.out).mono ?_); rintro e w' ⟨rfl, ⟨nd, rfl⟩⟩; (try first | exact ⟨rfl, _, World.drewN_drewN _ _ _⟩ | exact ⟨rfl, _, Eq.trans (World.drewN_drewN _ _ _) (congrArg (World.drewN _) (Nat.add_assoc _ _ _))⟩)) | ((with_reducible refine gd 16 ?_); (try (refine gate_guard (by rfl) ?_; dsimp only)); refine bE 16 #[.string (⟨#[]⟩ : ByteArray), .string (⟨#[]⟩ : ByteArray)] 75 ?_; intro gb144 hg w26 hbox hb; replace HO_10 := ak (Kd.R_below (Kd.R_elderB (kr HO_10.out) gb144 (Nat.le_of_eq hg.symm)) hb); have BK144 := ak hbox; have GW144 := gs hg (bl HB.out); have GE144 := gs hg (bl HB.out); replace HB := ak (below_step (bl HB.out) hb); clear hb hbox hg; obtain ⟨hcz27_0, hcz27_1, hfz27_0, hfz27_1⟩ := b2 BK144.out) | (go_at_call 60; (with_reducible refine (spec_GoodField.calls k1 t140 t143 true _ A10.out).mono ?_); rintro e w28 ⟨rfl, hb⟩; replace HO_10 := ak (Kd.R_below (by (with_reducible repeat (first | apply Kd.R_alloc | apply Kd.R_drewN | apply Kd.R_drew)); exact (Kd.R_mono (Kd.R_far (p := ⟨gb144, 1, none⟩) (Kd.R_far (p := ⟨gb144, 0, none⟩) (Kd.R_mono HO_10.out (fun k_ hk => (⟨hk, hk.2⟩ : _ ∧ k_ ≠ gb144))) (fun _ hk => hk.2) (.string t140)) (fun _ hk => hk.2) (.string t143)) (fun _ h_ => h_.1))) hb); replace BK144 := ak (blk_below (g := gb144) (o := .cells #[.string t140, .string t143] 75 (0, 0)) (bq BK144.out) hb); replace HB := ak (below_step (bl1 HB.out GE144.out) hb); clear hb; obtain ⟨Ao29, co29, eo29⟩ := Kd.R_slice HO_10.out; subst eo29; obtain ⟨hcz30_0, hcz30_1, hfz30_0, hfz30_1⟩ := b2 BK144.out) | (go_at_call 61; (with_reducible refine (spec_l3Is.calls t140 t143 (⟨#[116, 114, 97, 110, 115, 102, 101, 114, 45, 101, 110, 99, 111, 100, 105, 110, 103]⟩ : ByteArray) false _ A17.out).mono ?_); rintro e w31 ⟨rfl, hb⟩; replace HO_10 := ak (Kd.R_below (kr HO_10.out) hb); replace BK144 := ak (blk_below (bk BK144.out) hb); replace HB := ak (below_step (bl1 HB.out GE144.out) hb); clear hb; obtain ⟨hcz32_0, hcz32_1, hfz32_0, hfz32_1⟩ := b2 BK144.out) | ((with_reducible refine gate_builtin (b := .append) (xs := #[.tmp 50, .tmp 52]) rfl ?_); (try (refine gate_guard (by rfl) ?_; dsimp only)); at_builtin; refine Kd.R_append k75 (w0 := w) w.heap.size rfl (.tmp 50) (.tmp 52) 22 75 (.agg #[(.string ⟨#[]⟩), (.string ⟨#[]⟩)]) 32 rfl Tryz.underlying22 info75 rfl (by decide) (by omega) (.slice Ao29 x10_1.length co29) x10_1 (⟨t140, t143⟩ : S75) [.string t140, .string t143] (fun k_ => k_ ≠ gb144) (fun _ => False) rfl rfl ?aP (fun _ hk => hk.elim) ?aF ?aO ?aB ?aS ?aL ?_; (case aP => exact k75_mkM _ _ _ (⟨t140, t143⟩ : S75)); (case aB => exact (bl1 HB.out GE144.out)); (case aF => exact (fun k_ hk => Kd.freshB (bk BK144.out) k_ hk)); (case aO => exact (by (with_reducible repeat (first | apply Kd.R_alloc | apply Kd.R_drewN | apply Kd.R_drew)); exact Kd.R_mono HO_10.out (fun _ hk => hk.2))); (case aS => exact (below_size (bl1 HB.out GE144.out))); (case aL => have := LMc25.out; omega); intro v148 w33 ho hb hg hat; rw [← Ny147.out] at ho; replace BK144 := ak (blk_grown (bk BK144.out) hg (Kd.R_away HO_10.out (fun _ hk => hk.2))); replace HB := ak hb; have HO149 := ak ho; clear HO_10; clear ho hb hg hat)); try go_wp2_with (first | (go_at_call 25; (with_reducible refine (spec_l1Cut.calls k1 (rdOf ByteArray.empty l1 x20_1) 58 t140 t141 true _ A7.out).mono ?_); rintro e w' ⟨rfl, ⟨nd, rfl⟩⟩; (try first | exact ⟨rfl, _, World.drewN_drewN _ _ _⟩ | exact ⟨rfl, _, Eq.trans (World.drewN_drewN _ _ _) (congrArg (World.drewN _) (Nat.add_assoc _ _ _))⟩)) | (go_at_call 59; (with_reducible refine (spec_l3Trim.calls k1 t141 t143 _ A8.out).mono ?_); rintro e w' ⟨rfl, ⟨nd, rfl⟩⟩; (try first | exact ⟨rfl, _, World.drewN_drewN _ _ _⟩ | exact ⟨rfl, _, Eq.trans (World.drewN_drewN _ _ _) (congrArg (World.drewN _) (Nat.add_assoc _ _ _))⟩)) | ((with_reducible refine gd 16 ?_); (try (refine gate_guard (by rfl) ?_; dsimp only)); refine bE 16 #[.string (⟨#[]⟩ : ByteArray), .string (⟨#[]⟩ : ByteArray)] 75 ?_; intro gb144 hg w26 hbox hb; replace HO_10 := ak (Kd.R_below (Kd.R_elderB (kr HO_10.out) gb144 (Nat.le_of_eq hg.symm)) hb); have BK144 := ak hbox; have GW144 := gs hg (bl HB.out); have GE144 := gs hg (bl HB.out); replace HB := ak (below_step (bl HB.out) hb); clear hb hbox hg; obtain ⟨hcz27_0, hcz27_1, hfz27_0, hfz27_1⟩ := b2 BK144.out) | (go_at_call 60; (with_reducible refine (spec_GoodField.calls k1 t140 t143 true _ A10.out).mono ?_); rintro e w28 ⟨rfl, hb⟩; replace HO_10 := ak (Kd.R_below (by (with_reducible repeat (first | apply Kd.R_alloc | apply Kd.R_drewN | apply Kd.R_drew)); exact (Kd.R_mono (Kd.R_far (p := ⟨gb144, 1, none⟩) (Kd.R_far (p := ⟨gb144, 0, none⟩) (Kd.R_mono HO_10.out (fun k_ hk => (⟨hk, hk.2⟩ : _ ∧ k_ ≠ gb144))) (fun _ hk => hk.2) (.string t140)) (fun _ hk => hk.2) (.string t143)) (fun _ h_ => h_.1))) hb); replace BK144 := ak (blk_below (g := gb144) (o := .cells #[.string t140, .string t143] 75 (0, 0)) (bq BK144.out) hb); replace HB := ak (below_step (bl1 HB.out GE144.out) hb); clear hb; obtain ⟨Ao29, co29, eo29⟩ := Kd.R_slice HO_10.out; subst eo29; obtain ⟨hcz30_0, hcz30_1, hfz30_0, hfz30_1⟩ := b2 BK144.out) | (go_at_call 61; (with_reducible refine (spec_l3Is.calls t140 t143 (⟨#[116, 114, 97, 110, 115, 102, 101, 114, 45, 101, 110, 99, 111, 100, 105, 110, 103]⟩ : ByteArray) false _ A17.out).mono ?_); rintro e w31 ⟨rfl, hb⟩; replace HO_10 := ak (Kd.R_below (kr HO_10.out) hb); replace BK144 := ak (blk_below (bk BK144.out) hb); replace HB := ak (below_step (bl1 HB.out GE144.out) hb); clear hb; obtain ⟨hcz32_0, hcz32_1, hfz32_0, hfz32_1⟩ := b2 BK144.out) | ((with_reducible refine gate_builtin (b := .append) (xs := #[.tmp 50, .tmp 52]) rfl ?_); (try (refine gate_guard (by rfl) ?_; dsimp only)); at_builtin; refine Kd.R_append k75 (w0 := w) w.heap.size rfl (.tmp 50) (.tmp 52) 22 75 (.agg #[(.string ⟨#[]⟩), (.string ⟨#[]⟩)]) 32 rfl Tryz.underlying22 info75 rfl (by decide) (by omega) (.slice Ao29 x10_1.length co29) x10_1 (⟨t140, t143⟩ : S75) [.string t140, .string t143] (fun k_ => k_ ≠ gb144) (fun _ => False) rfl rfl ?aP (fun _ hk => hk.elim) ?aF ?aO ?aB ?aS ?aL ?_; (case aP => exact k75_mkM _ _ _ (⟨t140, t143⟩ : S75)); (case aB => exact (bl1 HB.out GE144.out)); (case aF => exact (fun k_ hk => Kd.freshB (bk BK144.out) k_ hk)); (case aO => exact (by (with_reducible repeat (first | apply Kd.R_alloc | apply Kd.R_drewN | apply Kd.R_drew)); exact Kd.R_mono HO_10.out (fun _ hk => hk.2))); (case aS => exact (below_size (bl1 HB.out GE144.out))); (case aL => have := LMc25.out; omega); intro v148 w33 ho hb hg hat; rw [← Ny147.out] at ho; replace BK144 := ak (blk_grown (bk BK144.out) hg (Kd.R_away HO_10.out (fun _ hk => hk.2))); replace HB := ak hb; have HO149 := ak ho; clear HO_10; clear ho hb hg hat)))
           go_roundg k1
           case measure => have := HK1.out; omega
           case rel => exact ⟨(y147), (wrap64 (x20_1 + 1)), (by first | rfl | (simp; done) | (simp [*]; done)), H', ⟨by have := HK1.out; omega⟩, ⟨by (with_reducible repeat (first | apply Kd.R_alloc | apply Kd.R_drewN | apply Kd.R_drew)); exact Kd.R_mono HO149.out (fun _ hk => trivial)⟩, ⟨bl1 HB.out GE144.out⟩⟩
          ·rw [if_neg c25] at H
           exact absurd H (by simp)
       ·replace c11 := Bool.eq_false_iff.mpr c11
        subst c11
        rw [if_neg ff] at H
        simp only [Option.some.injEq, Prod.mk.injEq] at H
        obtain ⟨rfl, rfl, rfl, rfl⟩ := H
        have p139 : 0 ≤ (x20_1 : Int) := od
        have q139 : x20_1 < (l1.length : Int) := od
        obtain ⟨ad139, e139, hx139_0⟩ := Kd.at_string HR1.out x20_1 p139 q139
        cases e139
        replace hx139_0 := (HB.out.cell (World.block_lt_of_cell? w _ hx139_0)).trans hx139_0
        replace p139 := eq_true p139
        replace q139 := eq_true q139
        go_wp2_with (first | (go_at_call 25; (with_reducible refine (spec_l1Cut.calls k1 (rdOf ByteArray.empty l1 x20_1) 58 t140 t141 true _ A7.out).mono ?_); rintro e w' ⟨rfl, ⟨nd, rfl⟩⟩; (try first | exact ⟨rfl, _, World.drewN_drewN _ _ _⟩ | exact ⟨rfl, _, Eq.trans (World.drewN_drewN _ _ _) (congrArg (World.drewN _) (Nat.add_assoc _ _ _))⟩)) | (go_at_call 59; (with_reducible refine (spec_l3Trim.calls k1 t141 t143 _ A8.out).mono ?_); rintro e w' ⟨rfl, ⟨nd, rfl⟩⟩; (try first | exact ⟨rfl, _, World.drewN_drewN _ _ _⟩ | exact ⟨rfl, _, Eq.trans (World.drewN_drewN _ _ _) (congrArg (World.drewN _) (Nat.add_assoc _ _ _))⟩)) | ((with_reducible refine gd 16 ?_); (try (refine gate_guard (by rfl) ?_; dsimp only)); refine bE 16 #[.string (⟨#[]⟩ : ByteArray), .string (⟨#[]⟩ : ByteArray)] 75 ?_; intro gb144 hg w34 hbox hb; replace HO_10 := ak (Kd.R_below (Kd.R_elderB (kr HO_10.out) gb144 (Nat.le_of_eq hg.symm)) hb); have BK144 := ak hbox; have GW144 := gs hg (bl HB.out); have GE144 := gs hg (bl HB.out); replace HB := ak (below_step (bl HB.out) hb); clear hb hbox hg; obtain ⟨hcz35_0, hcz35_1, hfz35_0, hfz35_1⟩ := b2 BK144.out) | (go_at_call 60; (with_reducible refine (spec_GoodField.calls k1 t140 t143 false _ A10.out).mono ?_); rintro e w36 ⟨rfl, hb⟩; replace HO_10 := ak (Kd.R_below (by (with_reducible repeat (first | apply Kd.R_alloc | apply Kd.R_drewN | apply Kd.R_drew)); exact (Kd.R_mono (Kd.R_far (p := ⟨gb144, 1, none⟩) (Kd.R_far (p := ⟨gb144, 0, none⟩) (Kd.R_mono HO_10.out (fun k_ hk => (⟨hk, hk.2⟩ : _ ∧ k_ ≠ gb144))) (fun _ hk => hk.2) (.string t140)) (fun _ hk => hk.2) (.string t143)) (fun _ h_ => h_.1))) hb); replace BK144 := ak (blk_below (g := gb144) (o := .cells #[.string t140, .string t143] 75 (0, 0)) (bq BK144.out) hb); replace HB := ak (below_step (bl1 HB.out GE144.out) hb); clear hb))
        repeat (go_quiet (first | (go_at_call 25; (with_reducible refine (spec_l1Cut.calls k1 (rdOf ByteArray.empty l1 x20_1) 58 t140 t141 true _ A7.out).mono ?_); rintro e w' ⟨rfl, ⟨nd, rfl⟩⟩; (try first | exact ⟨rfl, _, World.drewN_drewN _ _ _⟩ | exact ⟨rfl, _, Eq.trans (World.drewN_drewN _ _ _) (congrArg (World.drewN _) (Nat.add_assoc _ _ _))⟩)) | (go_at_call 59; (with_reducible refine (spec_l3Trim.calls k1 t141 t143 _ A8.out).mono ?_); rintro e w' ⟨rfl, ⟨nd, rfl⟩⟩; (try first | exact ⟨rfl, _, World.drewN_drewN _ _ _⟩ | exact ⟨rfl, _, Eq.trans (World.drewN_drewN _ _ _) (congrArg (World.drewN _) (Nat.add_assoc _ _ _))⟩)) | ((with_reducible refine gd 16 ?_); (try (refine gate_guard (by rfl) ?_; dsimp only)); refine bE 16 #[.string (⟨#[]⟩ : ByteArray), .string (⟨#[]⟩ : ByteArray)] 75 ?_; intro gb144 hg w34 hbox hb; replace HO_10 := ak (Kd.R_below (Kd.R_elderB (kr HO_10.out) gb144 (Nat.le_of_eq hg.symm)) hb); have BK144 := ak hbox; have GW144 := gs hg (bl HB.out); have GE144 := gs hg (bl HB.out); replace HB := ak (below_step (bl HB.out) hb); clear hb hbox hg; obtain ⟨hcz35_0, hcz35_1, hfz35_0, hfz35_1⟩ := b2 BK144.out) | (go_at_call 60; (with_reducible refine (spec_GoodField.calls k1 t140 t143 false _ A10.out).mono ?_); rintro e w36 ⟨rfl, hb⟩; replace HO_10 := ak (Kd.R_below (by (with_reducible repeat (first | apply Kd.R_alloc | apply Kd.R_drewN | apply Kd.R_drew)); exact (Kd.R_mono (Kd.R_far (p := ⟨gb144, 1, none⟩) (Kd.R_far (p := ⟨gb144, 0, none⟩) (Kd.R_mono HO_10.out (fun k_ hk => (⟨hk, hk.2⟩ : _ ∧ k_ ≠ gb144))) (fun _ hk => hk.2) (.string t140)) (fun _ hk => hk.2) (.string t143)) (fun _ h_ => h_.1))) hb); replace BK144 := ak (blk_below (g := gb144) (o := .cells #[.string t140, .string t143] 75 (0, 0)) (bq BK144.out) hb); replace HB := ak (below_step (bl1 HB.out GE144.out) hb); clear hb)); try go_wp2_with (first | (go_at_call 25; (with_reducible refine (spec_l1Cut.calls k1 (rdOf ByteArray.empty l1 x20_1) 58 t140 t141 true _ A7.out).mono ?_); rintro e w' ⟨rfl, ⟨nd, rfl⟩⟩; (try first | exact ⟨rfl, _, World.drewN_drewN _ _ _⟩ | exact ⟨rfl, _, Eq.trans (World.drewN_drewN _ _ _) (congrArg (World.drewN _) (Nat.add_assoc _ _ _))⟩)) | (go_at_call 59; (with_reducible refine (spec_l3Trim.calls k1 t141 t143 _ A8.out).mono ?_); rintro e w' ⟨rfl, ⟨nd, rfl⟩⟩; (try first | exact ⟨rfl, _, World.drewN_drewN _ _ _⟩ | exact ⟨rfl, _, Eq.trans (World.drewN_drewN _ _ _) (congrArg (World.drewN _) (Nat.add_assoc _ _ _))⟩)) | ((with_reducible refine gd 16 ?_); (try (refine gate_guard (by rfl) ?_; dsimp only)); refine bE 16 #[.string (⟨#[]⟩ : ByteArray), .string (⟨#[]⟩ : ByteArray)] 75 ?_; intro gb144 hg w34 hbox hb; replace HO_10 := ak (Kd.R_below (Kd.R_elderB (kr HO_10.out) gb144 (Nat.le_of_eq hg.symm)) hb); have BK144 := ak hbox; have GW144 := gs hg (bl HB.out); have GE144 := gs hg (bl HB.out); replace HB := ak (below_step (bl HB.out) hb); clear hb hbox hg; obtain ⟨hcz35_0, hcz35_1, hfz35_0, hfz35_1⟩ := b2 BK144.out) | (go_at_call 60; (with_reducible refine (spec_GoodField.calls k1 t140 t143 false _ A10.out).mono ?_); rintro e w36 ⟨rfl, hb⟩; replace HO_10 := ak (Kd.R_below (by (with_reducible repeat (first | apply Kd.R_alloc | apply Kd.R_drewN | apply Kd.R_drew)); exact (Kd.R_mono (Kd.R_far (p := ⟨gb144, 1, none⟩) (Kd.R_far (p := ⟨gb144, 0, none⟩) (Kd.R_mono HO_10.out (fun k_ hk => (⟨hk, hk.2⟩ : _ ∧ k_ ≠ gb144))) (fun _ hk => hk.2) (.string t140)) (fun _ hk => hk.2) (.string t143)) (fun _ h_ => h_.1))) hb); replace BK144 := ak (blk_below (g := gb144) (o := .cells #[.string t140, .string t143] 75 (0, 0)) (bq BK144.out) hb); replace HB := ak (below_step (bl1 HB.out GE144.out) hb); clear hb)))
        refine bodyPost_ret (results_list (rs := [.tmp 6, .tmp 7, .tmp 8, .tmp 9]) rfl (by simp) (.tmp (.tmp (.tmp (.tmp .nil))))) rfl ?_
        exact ⟨_, by first | rfl | (simp [errW_none, errW_some] <;> rfl) | (simp [*, errW_none, errW_some] <;> rfl), by first | exact Kd.R_nil _ _ _ _ _ | exact Kd.N_nil _ _ _ _ _ | exact Kd.V_nil _ _ _ _ _ | exact Kd.Q_nil _ _ _ _ _ | exact Kd.S_nil _ _ _ _ _, bl1 HB.out GE144.out⟩
      ·replace c9 := Bool.eq_false_iff.mpr c9
       subst c9
       rw [if_neg ff] at H
       simp only [Option.some.injEq, Prod.mk.injEq] at H
       obtain ⟨rfl, rfl, rfl, rfl⟩ := H
       have p139 : 0 ≤ (x20_1 : Int) := od
       have q139 : x20_1 < (l1.length : Int) := od
       obtain ⟨ad139, e139, hx139_0⟩ := Kd.at_string HR1.out x20_1 p139 q139
       cases e139
       replace hx139_0 := (HB.out.cell (World.block_lt_of_cell? w _ hx139_0)).trans hx139_0
       replace p139 := eq_true p139
       replace q139 := eq_true q139
       go_wp2_with (first | (go_at_call 25; (with_reducible refine (spec_l1Cut.calls k1 (rdOf ByteArray.empty l1 x20_1) 58 t140 t141 false _ A7.out).mono ?_); rintro e w' ⟨rfl, ⟨nd, rfl⟩⟩; (try first | exact ⟨rfl, _, World.drewN_drewN _ _ _⟩ | exact ⟨rfl, _, Eq.trans (World.drewN_drewN _ _ _) (congrArg (World.drewN _) (Nat.add_assoc _ _ _))⟩)) | (go_at_call 59; (with_reducible refine (spec_l3Trim.calls k1 t141 t143 _ A8.out).mono ?_); rintro e w' ⟨rfl, ⟨nd, rfl⟩⟩; (try first | exact ⟨rfl, _, World.drewN_drewN _ _ _⟩ | exact ⟨rfl, _, Eq.trans (World.drewN_drewN _ _ _) (congrArg (World.drewN _) (Nat.add_assoc _ _ _))⟩)) | ((with_reducible refine gd 16 ?_); (try (refine gate_guard (by rfl) ?_; dsimp only)); refine bE 16 #[.string (⟨#[]⟩ : ByteArray), .string (⟨#[]⟩ : ByteArray)] 75 ?_; intro gb144 hg w37 hbox hb; replace HO_10 := ak (Kd.R_below (Kd.R_elderB (kr HO_10.out) gb144 (Nat.le_of_eq hg.symm)) hb); have BK144 := ak hbox; have GW144 := gs hg (bl HB.out); have GE144 := gs hg (bl HB.out); replace HB := ak (below_step (bl HB.out) hb); clear hb hbox hg; obtain ⟨hcz38_0, hcz38_1, hfz38_0, hfz38_1⟩ := b2 BK144.out))
       repeat (go_quiet (first | (go_at_call 25; (with_reducible refine (spec_l1Cut.calls k1 (rdOf ByteArray.empty l1 x20_1) 58 t140 t141 false _ A7.out).mono ?_); rintro e w' ⟨rfl, ⟨nd, rfl⟩⟩; (try first | exact ⟨rfl, _, World.drewN_drewN _ _ _⟩ | exact ⟨rfl, _, Eq.trans (World.drewN_drewN _ _ _) (congrArg (World.drewN _) (Nat.add_assoc _ _ _))⟩)) | (go_at_call 59; (with_reducible refine (spec_l3Trim.calls k1 t141 t143 _ A8.out).mono ?_); rintro e w' ⟨rfl, ⟨nd, rfl⟩⟩; (try first | exact ⟨rfl, _, World.drewN_drewN _ _ _⟩ | exact ⟨rfl, _, Eq.trans (World.drewN_drewN _ _ _) (congrArg (World.drewN _) (Nat.add_assoc _ _ _))⟩)) | ((with_reducible refine gd 16 ?_); (try (refine gate_guard (by rfl) ?_; dsimp only)); refine bE 16 #[.string (⟨#[]⟩ : ByteArray), .string (⟨#[]⟩ : ByteArray)] 75 ?_; intro gb144 hg w37 hbox hb; replace HO_10 := ak (Kd.R_below (Kd.R_elderB (kr HO_10.out) gb144 (Nat.le_of_eq hg.symm)) hb); have BK144 := ak hbox; have GW144 := gs hg (bl HB.out); have GE144 := gs hg (bl HB.out); replace HB := ak (below_step (bl HB.out) hb); clear hb hbox hg; obtain ⟨hcz38_0, hcz38_1, hfz38_0, hfz38_1⟩ := b2 BK144.out)); try go_wp2_with (first | (go_at_call 25; (with_reducible refine (spec_l1Cut.calls k1 (rdOf ByteArray.empty l1 x20_1) 58 t140 t141 false _ A7.out).mono ?_); rintro e w' ⟨rfl, ⟨nd, rfl⟩⟩; (try first | exact ⟨rfl, _, World.drewN_drewN _ _ _⟩ | exact ⟨rfl, _, Eq.trans (World.drewN_drewN _ _ _) (congrArg (World.drewN _) (Nat.add_assoc _ _ _))⟩)) | (go_at_call 59; (with_reducible refine (spec_l3Trim.calls k1 t141 t143 _ A8.out).mono ?_); rintro e w' ⟨rfl, ⟨nd, rfl⟩⟩; (try first | exact ⟨rfl, _, World.drewN_drewN _ _ _⟩ | exact ⟨rfl, _, Eq.trans (World.drewN_drewN _ _ _) (congrArg (World.drewN _) (Nat.add_assoc _ _ _))⟩)) | ((with_reducible refine gd 16 ?_); (try (refine gate_guard (by rfl) ?_; dsimp only)); refine bE 16 #[.string (⟨#[]⟩ : ByteArray), .string (⟨#[]⟩ : ByteArray)] 75 ?_; intro gb144 hg w37 hbox hb; replace HO_10 := ak (Kd.R_below (Kd.R_elderB (kr HO_10.out) gb144 (Nat.le_of_eq hg.symm)) hb); have BK144 := ak hbox; have GW144 := gs hg (bl HB.out); have GE144 := gs hg (bl HB.out); replace HB := ak (below_step (bl HB.out) hb); clear hb hbox hg; obtain ⟨hcz38_0, hcz38_1, hfz38_0, hfz38_1⟩ := b2 BK144.out)))
       refine bodyPost_ret (results_list (rs := [.tmp 6, .tmp 7, .tmp 8, .tmp 9]) rfl (by simp) (.tmp (.tmp (.tmp (.tmp .nil))))) rfl ?_
       exact ⟨_, by first | rfl | (simp [errW_none, errW_some] <;> rfl) | (simp [*, errW_none, errW_some] <;> rfl), by first | exact Kd.R_nil _ _ _ _ _ | exact Kd.N_nil _ _ _ _ _ | exact Kd.V_nil _ _ _ _ _ | exact Kd.Q_nil _ _ _ _ _ | exact Kd.S_nil _ _ _ _ _, bl1 HB.out GE144.out⟩
     ·rw [if_neg c6] at H
      exact absurd H (by simp)
    ·rw [if_neg c5] at H
     exact absurd H (by simp)
   ·rw [if_neg c4] at H
    have c4b0 : decide (x20_1 < (l1.length : Int)) = false := decide_eq_false c4
    clear c4
    replace H := bs H
    obtain ⟨t150, A39, H⟩ := H
    try dsimp only at H
    have HC40 := ak H
    clear H
    obtain ⟨Ao41, co41, eo41⟩ := Kd.R_slice HO_10.out
    subst eo41
    go_upto_if 58 with (first | (go_at_call 62; (with_reducible refine (spec_l4Length.calls k1 _ _ x10_1 t150 _ ?side1 ?side2 A39.out).mono ?_); (case side1 => exact kc (Kd.R_reads' HO_10.out).2.2); (case side2 => exact (Kd.R_reads' HO_10.out).2.1); rintro e w42 ⟨rfl, hb⟩; replace HO_10 := ak (Kd.R_below (kr HO_10.out) hb); replace HB := ak (below_step (bl HB.out) hb); clear hb))
    repeat (go_quiet (first | (go_at_call 62; (with_reducible refine (spec_l4Length.calls k1 _ _ x10_1 t150 _ ?side1 ?side2 A39.out).mono ?_); (case side1 => exact kc (Kd.R_reads' HO_10.out).2.2); (case side2 => exact (Kd.R_reads' HO_10.out).2.1); rintro e w42 ⟨rfl, hb⟩; replace HO_10 := ak (Kd.R_below (kr HO_10.out) hb); replace HB := ak (below_step (bl HB.out) hb); clear hb)); go_upto_if 58 with (first | (go_at_call 62; (with_reducible refine (spec_l4Length.calls k1 _ _ x10_1 t150 _ ?side1 ?side2 A39.out).mono ?_); (case side1 => exact kc (Kd.R_reads' HO_10.out).2.2); (case side2 => exact (Kd.R_reads' HO_10.out).2.1); rintro e w42 ⟨rfl, hb⟩; replace HO_10 := ak (Kd.R_below (kr HO_10.out) hb); replace HB := ak (below_step (bl HB.out) hb); clear hb)))
    (try simp only [Act.put, List.setIfInBounds_toArray, List.set_cons_zero, List.set_cons_succ])
    go_cut [17] (fun v17 wc => ∃ (kq : Nat) (x17_39 : Int), v17 = .int .i64 x17_39 ∧ Aside0 (spec_l4Rest.j1 kq a0 a2 x10_1 x17_39 = some (r1, r2, r3, r4)) ∧ Aside0 (kq ≤ k1) ∧ Aside0 (Kd.R k75 75 wc w.heap.size (fun _ => True) (.slice Ao41 x10_1.length co41) x10_1) ∧ Aside0 (Below w.heap.size w wc))
    case first =>
     have H := HC40.out
     clear HC40
     by_cases c43 : t150 = (-1)
     ·rw [if_pos c43] at H
      have c43b0 : (t150 == (-1)) = true := beq_iff_eq.mpr c43
      have c43b1 : (t150 != (-1)) = false := bne_eq_false_iff_eq.mpr c43
      clear c43
      (first | rw [c43b0] | (simp only [i64_w, i32_w]; rw [c43b0]) | skip)
      have H' := ak H
      clear H
      go_wp2
      repeat (go_quiet (fail); try go_wp2)
      go_meet
      case rel => exact ⟨_, (0), (by first | rfl | (simp; done) | (simp [*]; done)), H', ⟨by have := HK1.out; first | omega | exact Nat.le_refl _⟩, ⟨kr HO_10.out⟩, ⟨bl HB.out⟩⟩
     ·rw [if_neg c43] at H
      have c43b0 : (t150 == (-1)) = false := beq_eq_false_iff_ne.mpr c43
      have c43b1 : (t150 != (-1)) = true := bne_iff_ne.mpr c43
      (first | rw [c43b0] | (simp only [i64_w, i32_w]; rw [c43b0]) | skip)
      have H' := ak H
      clear H
      go_wp2
      repeat (go_quiet (fail); try go_wp2)
      go_meet
      case rel => exact ⟨_, (t150), (by first | rfl | (simp; done) | (simp [*]; done)), H', ⟨by have := HK1.out; first | omega | exact Nat.le_refl _⟩, ⟨kr HO_10.out⟩, ⟨bl HB.out⟩⟩
    case rest =>
     clear HC40
     try clear c1
     try clear p1
     try clear q1
     try clear hx1
     try clear c2
     try clear p2
     try clear c4
     try clear c4b0
     try clear c5
     try clear c5b0
     try clear c6
     try clear c6b0
     try clear p6
     try clear c9
     try clear c11
     try clear c12
     try clear c12b0
     try clear c12b1
     try clear p13
     try clear q13
     try clear hx13
     try clear c18
     try clear c25
     try clear c28
     try clear c43
     try clear c43b0
     try clear c43b1
     try clear hcz14_0
     try clear hcz14_1
     try clear hcz20_0
     try clear hcz20_1
     try clear hcz23_0
     try clear hcz23_1
     try clear hcz27_0
     try clear hcz27_1
     try clear hcz30_0
     try clear hcz30_1
     try clear hcz32_0
     try clear hcz32_1
     try clear hcz35_0
     try clear hcz35_1
     try clear hcz38_0
     try clear hcz38_1
     try clear hfz14_0
     try clear hfz14_1
     try clear hfz20_0
     try clear hfz20_1
     try clear hfz23_0
     try clear hfz23_1
     try clear hfz27_0
     try clear hfz27_1
     try clear hfz30_0
     try clear hfz30_1
     try clear hfz32_0
     try clear hfz32_1
     try clear hfz35_0
     try clear hfz35_1
     try clear hfz38_0
     try clear hfz38_1
     try clear hx139_0
     try clear p139
     try clear p2
     try clear q139
     obtain ⟨kq, x17_39, rfl, HA, HJ39, HO_10, HB⟩ := hcut
     cases kq with
     | zero => exact absurd HA.out (by simp [spec_l4Rest.j1])
     | succ kj39 =>
      have H := HA.out
      clear HA
      simp only [spec_l4Rest.j1] at H
      replace H := bs H
      obtain ⟨t151, A44, H⟩ := H
      try dsimp only at H
      by_cases c45 : t151 = true
      ·subst c45
       rw [if_pos rfl] at H
       by_cases c46 : (wrap64 ((a0.size : Int) - a2)) < x17_39
       ·rw [if_pos c46] at H
        have c46b0 : decide ((wrap64 ((a0.size : Int) - a2)) < x17_39) = true := decide_eq_true c46
        clear c46
        simp only [Option.some.injEq, Prod.mk.injEq] at H
        obtain ⟨rfl, rfl, rfl, rfl⟩ := H
        go_wp2_with (first | (go_at_call 38; (with_reducible refine (spec_l1In.calls x17_39 0 300 true _ A44.out).mono ?_); rintro e w' ⟨rfl, ⟨nd, rfl⟩⟩; (try first | exact ⟨rfl, _, World.drewN_drewN _ _ _⟩ | exact ⟨rfl, _, Eq.trans (World.drewN_drewN _ _ _) (congrArg (World.drewN _) (Nat.add_assoc _ _ _))⟩)))
        repeat (go_quiet (first | (go_at_call 38; (with_reducible refine (spec_l1In.calls x17_39 0 300 true _ A44.out).mono ?_); rintro e w' ⟨rfl, ⟨nd, rfl⟩⟩; (try first | exact ⟨rfl, _, World.drewN_drewN _ _ _⟩ | exact ⟨rfl, _, Eq.trans (World.drewN_drewN _ _ _) (congrArg (World.drewN _) (Nat.add_assoc _ _ _))⟩))); try go_wp2_with (first | (go_at_call 38; (with_reducible refine (spec_l1In.calls x17_39 0 300 true _ A44.out).mono ?_); rintro e w' ⟨rfl, ⟨nd, rfl⟩⟩; (try first | exact ⟨rfl, _, World.drewN_drewN _ _ _⟩ | exact ⟨rfl, _, Eq.trans (World.drewN_drewN _ _ _) (congrArg (World.drewN _) (Nat.add_assoc _ _ _))⟩))))
        refine bodyPost_ret (results_list (rs := [.tmp 6, .tmp 7, .tmp 8, .tmp 9]) rfl (by simp) (.tmp (.tmp (.tmp (.tmp .nil))))) rfl ?_
        exact ⟨_, by first | rfl | (simp [errW_none, errW_some] <;> rfl) | (simp [*, errW_none, errW_some] <;> rfl), by first | exact Kd.R_nil _ _ _ _ _ | exact Kd.N_nil _ _ _ _ _ | exact Kd.V_nil _ _ _ _ _ | exact Kd.Q_nil _ _ _ _ _ | exact Kd.S_nil _ _ _ _ _, bl HB.out⟩
       ·rw [if_neg c46] at H
        have c46b0 : decide ((wrap64 ((a0.size : Int) - a2)) < x17_39) = false := decide_eq_false c46
        clear c46
        by_cases c47 : 0 ≤ a2
        ·rw [if_pos c47] at H
         have c47b0 := eq_true c47
         have c47b1 : decide (0 ≤ a2) = true := decide_eq_true c47
         clear c47
         by_cases c48 : a2 ≤ (wrap64 (a2 + x17_39))
         ·rw [if_pos c48] at H
          have c48b0 := eq_true c48
          have c48b1 : decide (a2 ≤ (wrap64 (a2 + x17_39))) = true := decide_eq_true c48
          by_cases c49 : (wrap64 (a2 + x17_39)) ≤ (a0.size : Int)
          ·rw [if_pos c49] at H
           have c49b0 := eq_true c49
           have c49b1 : decide ((wrap64 (a2 + x17_39)) ≤ (a0.size : Int)) = true := decide_eq_true c49
           simp only [Option.some.injEq, Prod.mk.injEq] at H
           obtain ⟨rfl, rfl, rfl, rfl⟩ := H
           go_wp2_with (first | (go_at_call 38; (with_reducible refine (spec_l1In.calls x17_39 0 300 true _ A44.out).mono ?_); rintro e w' ⟨rfl, ⟨nd, rfl⟩⟩; (try first | exact ⟨rfl, _, World.drewN_drewN _ _ _⟩ | exact ⟨rfl, _, Eq.trans (World.drewN_drewN _ _ _) (congrArg (World.drewN _) (Nat.add_assoc _ _ _))⟩)))
           repeat (go_quiet (first | (go_at_call 38; (with_reducible refine (spec_l1In.calls x17_39 0 300 true _ A44.out).mono ?_); rintro e w' ⟨rfl, ⟨nd, rfl⟩⟩; (try first | exact ⟨rfl, _, World.drewN_drewN _ _ _⟩ | exact ⟨rfl, _, Eq.trans (World.drewN_drewN _ _ _) (congrArg (World.drewN _) (Nat.add_assoc _ _ _))⟩))); try go_wp2_with (first | (go_at_call 38; (with_reducible refine (spec_l1In.calls x17_39 0 300 true _ A44.out).mono ?_); rintro e w' ⟨rfl, ⟨nd, rfl⟩⟩; (try first | exact ⟨rfl, _, World.drewN_drewN _ _ _⟩ | exact ⟨rfl, _, Eq.trans (World.drewN_drewN _ _ _) (congrArg (World.drewN _) (Nat.add_assoc _ _ _))⟩))))
           refine bodyPost_ret (results_list (rs := [.tmp 6, .tmp 7, .tmp 8, .tmp 9]) rfl (by simp) (.tmp (.tmp (.tmp (.tmp .nil))))) rfl ?_
           exact ⟨_, by first | rfl | (simp [errW_none, errW_some] <;> rfl) | (simp [*, errW_none, errW_some] <;> rfl), kr HO_10.out, bl HB.out⟩
          ·rw [if_neg c49] at H
           exact absurd H (by simp)
         ·rw [if_neg c48] at H
          exact absurd H (by simp)
        ·rw [if_neg c47] at H
         exact absurd H (by simp)
      ·replace c45 := Bool.eq_false_iff.mpr c45
       subst c45
       rw [if_neg ff] at H
       simp only [Option.some.injEq, Prod.mk.injEq] at H
       obtain ⟨rfl, rfl, rfl, rfl⟩ := H
       go_wp2_with (first | (go_at_call 38; (with_reducible refine (spec_l1In.calls x17_39 0 300 false _ A44.out).mono ?_); rintro e w' ⟨rfl, ⟨nd, rfl⟩⟩; (try first | exact ⟨rfl, _, World.drewN_drewN _ _ _⟩ | exact ⟨rfl, _, Eq.trans (World.drewN_drewN _ _ _) (congrArg (World.drewN _) (Nat.add_assoc _ _ _))⟩)))
       repeat (go_quiet (first | (go_at_call 38; (with_reducible refine (spec_l1In.calls x17_39 0 300 false _ A44.out).mono ?_); rintro e w' ⟨rfl, ⟨nd, rfl⟩⟩; (try first | exact ⟨rfl, _, World.drewN_drewN _ _ _⟩ | exact ⟨rfl, _, Eq.trans (World.drewN_drewN _ _ _) (congrArg (World.drewN _) (Nat.add_assoc _ _ _))⟩))); try go_wp2_with (first | (go_at_call 38; (with_reducible refine (spec_l1In.calls x17_39 0 300 false _ A44.out).mono ?_); rintro e w' ⟨rfl, ⟨nd, rfl⟩⟩; (try first | exact ⟨rfl, _, World.drewN_drewN _ _ _⟩ | exact ⟨rfl, _, Eq.trans (World.drewN_drewN _ _ _) (congrArg (World.drewN _) (Nat.add_assoc _ _ _))⟩))))
       refine bodyPost_ret (results_list (rs := [.tmp 6, .tmp 7, .tmp 8, .tmp 9]) rfl (by simp) (.tmp (.tmp (.tmp (.tmp .nil))))) rfl ?_
       exact ⟨_, by first | rfl | (simp [errW_none, errW_some] <;> rfl) | (simp [*, errW_none, errW_some] <;> rfl), by first | exact Kd.R_nil _ _ _ _ _ | exact Kd.N_nil _ _ _ _ _ | exact Kd.V_nil _ _ _ _ _ | exact Kd.Q_nil _ _ _ _ _ | exact Kd.S_nil _ _ _ _ _, bl HB.out⟩

/-! ### spec_l4Head: function 50 -/
def spec_l4Head.l0 : Nat → ByteArray → List (S75) → Int → Int → Option (ByteArray)
 | 0, _, _, _, _ => none
 | k + 1, x5, x10, x11, x12 => if x12 < x11 then (if 0 ≤ x12 then (if x12 < (x10.length : Int) then (if ((rd_T75 x10 x12).f0).size + 2 ≤ 9223372036854775807 then (if (((rd_T75 x10 x12).f0) ++ (⟨#[58, 32]⟩ : ByteArray)).size + ((rd_T75 x10 x12).f1).size ≤ 9223372036854775807 then (if ((((rd_T75 x10 x12).f0) ++ (⟨#[58, 32]⟩ : ByteArray)) ++ ((rd_T75 x10 x12).f1)).size + 2 ≤ 9223372036854775807 then (if x5.size + (((((rd_T75 x10 x12).f0) ++ (⟨#[58, 32]⟩ : ByteArray)) ++ ((rd_T75 x10 x12).f1)) ++ (⟨#[13, 10]⟩ : ByteArray)).size ≤ 9223372036854775807 then (spec_l4Head.l0 k (x5 ++ (((((rd_T75 x10 x12).f0) ++ (⟨#[58, 32]⟩ : ByteArray)) ++ ((rd_T75 x10 x12).f1)) ++ (⟨#[13, 10]⟩ : ByteArray))) x10 x11 (wrap64 (x12 + 1))) else (none)) else (none)) else (none)) else (none)) else (none)) else (none)) else (if x5.size + 2 ≤ 9223372036854775807 then (some (x5 ++ (⟨#[13, 10]⟩ : ByteArray))) else (none))
def spec_l4Head.f (k : Nat) (a0 : ByteArray) (l1 : List (S75)) : Option (ByteArray) := if a0.size + 2 ≤ 9223372036854775807 then (spec_l4Head.l0 k (a0 ++ (⟨#[13, 10]⟩ : ByteArray)) l1 (l1.length : Int) 0) else (none)
theorem spec_l4Head.mono_l : ∀ k, (∀ y0 y1 y2 y3, LeO (spec_l4Head.l0 k y0 y1 y2 y3) (spec_l4Head.l0 (k + 1) y0 y1 y2 y3))
 | 0 => fun _ _ _ _ r h => by simp [spec_l4Head.l0] at h
 | k + 1 => by
  have ih0 := spec_l4Head.mono_l k
  ·intro y0 y1 y2 y3
   unfold spec_l4Head.l0
   repeat' with_reducible first | exact ih0 _ _ _ _ | exact LeO.refl _ | exact LeO.none _ | refine LeO.ite ?_ ?_ | refine LeO.bind ?_ (fun _ => ?_)
theorem spec_l4Head.mono : ∀ a0 a1 k, LeO (spec_l4Head.f k a0 a1) (spec_l4Head.f (k + 1) a0 a1) := by
 intro a0 a1 k
 have ih0 := spec_l4Head.mono_l k
 unfold spec_l4Head.f
 repeat' with_reducible first | exact ih0 _ _ _ _ | exact LeO.refl _ | exact LeO.none _ | refine LeO.ite ?_ ?_ | refine LeO.bind ?_ (fun _ => ?_)
set_option maxHeartbeats 8000000 in
set_option maxRecDepth 100000 in
theorem spec_l4Head.calls (k : Nat) (a0 : ByteArray) (A1 : Option Addr) (c1 : Nat) (l1 : List (S75)) (r : ByteArray) (w : World) (hr1 : Kd.C k75 w A1 l1.length l1) (hc1 : l1.length ≤ c1) (h : spec_l4Head.f k a0 l1 = some r) :
  Calls Tryz.prog 50 #[.string a0, .slice A1 l1.length c1] w fun e w' => e = .returned (.string r) ∧ Below w.heap.size w w' := by
 have hu75 := Tryz.underlying75
 have HR1 := ak hr1
 have HC1 := ak hc1
 clear hr1 hc1
 have HB := ak (Below.refl w.heap.size w)
 have H : (if a0.size + 2 ≤ 9223372036854775807 then (spec_l4Head.l0 k (a0 ++ (⟨#[13, 10]⟩ : ByteArray)) l1 (l1.length : Int) 0) else (none)) = some r := h
 clear h
 by_cases c3 : a0.size + 2 ≤ 9223372036854775807
 ·rw [if_pos c3] at H
  have c3b0 := eq_true c3
  have c3b1 : decide (a0.size + 2 ≤ 9223372036854775807) = true := decide_eq_true c3
  try have c3b2 : (9223372036854775807 < a0.size + 2) = False := eq_false (Nat.not_lt.2 c3)
  have H' := ak H
  clear H
  go_enter Tryz.func50, Tryz.ntmps50
  go_wp2
  go_loopg [5, 12] k (fun kq v5 v12 w' => ∃ (x5_1 : ByteArray) (x12_1 : Int), v5 = .string x5_1 ∧ v12 = .int .i64 x12_1 ∧ Aside0 (spec_l4Head.l0 kq x5_1 l1 (l1.length : Int) x12_1 = some r) ∧ Aside0 (kq ≤ k) ∧ Aside0 (Below w.heap.size w w'))
  case atStart => exact ⟨(a0 ++ (⟨#[13, 10]⟩ : ByteArray)), (0), (by first | rfl | (simp; done) | (simp [*]; done)), (by first | rfl | (simp; done) | (simp [*]; done)), H', ⟨Nat.le_refl _⟩, ⟨bl HB.out⟩⟩
  case round =>
   clear H'
   try clear c1
   try clear p2
   try clear c3
   try clear c3b0
   try clear c3b1
   try clear c3b2
   obtain ⟨x5_1, x12_1, rfl, rfl, HA, HK1, HB⟩ := hrel
   cases gk with
   | zero => exact absurd HA.out (by simp [spec_l4Head.l0])
   | succ k1 =>
    have H := HA.out
    clear HA
    simp only [spec_l4Head.l0] at H
    by_cases c4 : x12_1 < (l1.length : Int)
    ·rw [if_pos c4] at H
     have c4b0 : decide (x12_1 < (l1.length : Int)) = true := decide_eq_true c4
     clear c4
     by_cases c5 : 0 ≤ x12_1
     ·rw [if_pos c5] at H
      have c5b0 : decide (0 ≤ x12_1) = true := decide_eq_true c5
      clear c5
      by_cases c6 : x12_1 < (l1.length : Int)
      ·rw [if_pos c6] at H
       have c6b0 : decide (x12_1 < (l1.length : Int)) = true := decide_eq_true c6
       clear c6
       by_cases c7 : ((rd_T75 l1 x12_1).f0).size + 2 ≤ 9223372036854775807
       ·rw [if_pos c7] at H
        have c7b0 := eq_true c7
        have c7b1 : decide (((rd_T75 l1 x12_1).f0).size + 2 ≤ 9223372036854775807) = true := decide_eq_true c7
        try have c7b2 : (9223372036854775807 < ((rd_T75 l1 x12_1).f0).size + 2) = False := eq_false (Nat.not_lt.2 c7)
        by_cases c8 : (((rd_T75 l1 x12_1).f0) ++ (⟨#[58, 32]⟩ : ByteArray)).size + ((rd_T75 l1 x12_1).f1).size ≤ 9223372036854775807
        ·rw [if_pos c8] at H
         have c8b0 := eq_true c8
         have c8b1 : decide ((((rd_T75 l1 x12_1).f0) ++ (⟨#[58, 32]⟩ : ByteArray)).size + ((rd_T75 l1 x12_1).f1).size ≤ 9223372036854775807) = true := decide_eq_true c8
         try have c8b2 : (9223372036854775807 < (((rd_T75 l1 x12_1).f0) ++ (⟨#[58, 32]⟩ : ByteArray)).size + ((rd_T75 l1 x12_1).f1).size) = False := eq_false (Nat.not_lt.2 c8)
         try have c8b3 : (9223372036854775807 < ((rd_T75 l1 x12_1).f0).size + 2 + ((rd_T75 l1 x12_1).f1).size) = False := by (have h_ := c8b2; simp only [ByteArray.size_append] at h_; exact h_)
         by_cases c9 : ((((rd_T75 l1 x12_1).f0) ++ (⟨#[58, 32]⟩ : ByteArray)) ++ ((rd_T75 l1 x12_1).f1)).size + 2 ≤ 9223372036854775807
         ·rw [if_pos c9] at H
          have c9b0 := eq_true c9
          have c9b1 : decide (((((rd_T75 l1 x12_1).f0) ++ (⟨#[58, 32]⟩ : ByteArray)) ++ ((rd_T75 l1 x12_1).f1)).size + 2 ≤ 9223372036854775807) = true := decide_eq_true c9
          try have c9b2 : (9223372036854775807 < ((((rd_T75 l1 x12_1).f0) ++ (⟨#[58, 32]⟩ : ByteArray)) ++ ((rd_T75 l1 x12_1).f1)).size + 2) = False := eq_false (Nat.not_lt.2 c9)
          try have c9b3 : (9223372036854775807 < ((rd_T75 l1 x12_1).f0).size + 2 + ((rd_T75 l1 x12_1).f1).size + 2) = False := by (have h_ := c9b2; simp only [ByteArray.size_append] at h_; exact h_)
          by_cases c10 : x5_1.size + (((((rd_T75 l1 x12_1).f0) ++ (⟨#[58, 32]⟩ : ByteArray)) ++ ((rd_T75 l1 x12_1).f1)) ++ (⟨#[13, 10]⟩ : ByteArray)).size ≤ 9223372036854775807
          ·rw [if_pos c10] at H
           have c10b0 := eq_true c10
           have c10b1 : decide (x5_1.size + (((((rd_T75 l1 x12_1).f0) ++ (⟨#[58, 32]⟩ : ByteArray)) ++ ((rd_T75 l1 x12_1).f1)) ++ (⟨#[13, 10]⟩ : ByteArray)).size ≤ 9223372036854775807) = true := decide_eq_true c10
           try have c10b2 : (9223372036854775807 < x5_1.size + (((((rd_T75 l1 x12_1).f0) ++ (⟨#[58, 32]⟩ : ByteArray)) ++ ((rd_T75 l1 x12_1).f1)) ++ (⟨#[13, 10]⟩ : ByteArray)).size) = False := eq_false (Nat.not_lt.2 c10)
           try have c10b3 : (9223372036854775807 < x5_1.size + (((rd_T75 l1 x12_1).f0).size + 2 + ((rd_T75 l1 x12_1).f1).size + 2)) = False := by (have h_ := c10b2; simp only [ByteArray.size_append] at h_; exact h_)
           have H' := ak H
           clear H
           have p152 : 0 ≤ (x12_1 : Int) := od
           have q152 : x12_1 < (l1.length : Int) := od
           obtain ⟨ad152, e152, hx152_0, hx152_1⟩ := at_T75 HR1.out x12_1 p152 q152
           cases e152
           replace hx152_0 := (HB.out.cell (World.block_lt_of_cell? w _ hx152_0)).trans hx152_0
           replace hx152_1 := (HB.out.cell (World.block_lt_of_cell? w _ hx152_1)).trans hx152_1
           replace p152 := eq_true p152
           replace q152 := eq_true q152
           go_wp2_with (first | ((with_reducible refine gd 7 ?_); refine bE 7 #[.string (⟨#[]⟩ : ByteArray), .string (⟨#[]⟩ : ByteArray)] 75 ?_; intro gb153 hg w11 hbox hb; have BK153 := ak hbox; have GW153 := gs hg (bl HB.out); have GE153 := gs hg (bl HB.out); replace HB := ak (below_step (bl HB.out) hb); clear hb hbox hg; obtain ⟨hcz12_0, hcz12_1, hfz12_0, hfz12_1⟩ := b2 BK153.out))
           go_roundg k1
           case measure => have := HK1.out; omega
           case rel => exact ⟨(x5_1 ++ (((((rd_T75 l1 x12_1).f0) ++ (⟨#[58, 32]⟩ : ByteArray)) ++ ((rd_T75 l1 x12_1).f1)) ++ (⟨#[13, 10]⟩ : ByteArray))), (wrap64 (x12_1 + 1)), (by first | rfl | (simp; done) | (simp [*]; done)), (by first | rfl | (simp; done) | (simp [*]; done)), H', ⟨by have := HK1.out; omega⟩, ⟨bl1 HB.out GE153.out⟩⟩
          ·rw [if_neg c10] at H
           exact absurd H (by simp)
         ·rw [if_neg c9] at H
          exact absurd H (by simp)
        ·rw [if_neg c8] at H
         exact absurd H (by simp)
       ·rw [if_neg c7] at H
        exact absurd H (by simp)
      ·rw [if_neg c6] at H
       exact absurd H (by simp)
     ·rw [if_neg c5] at H
      exact absurd H (by simp)
    ·rw [if_neg c4] at H
     have c4b0 : decide (x12_1 < (l1.length : Int)) = false := decide_eq_false c4
     clear c4
     by_cases c13 : x5_1.size + 2 ≤ 9223372036854775807
     ·rw [if_pos c13] at H
      have c13b0 := eq_true c13
      have c13b1 : decide (x5_1.size + 2 ≤ 9223372036854775807) = true := decide_eq_true c13
      try have c13b2 : (9223372036854775807 < x5_1.size + 2) = False := eq_false (Nat.not_lt.2 c13)
      obtain rfl := Option.some.inj H
      go_wp2
      go_ret
      exact ⟨by first | rfl | (simp [errW_none, errW_some] <;> rfl) | (simp [*, errW_none, errW_some] <;> rfl), bl HB.out⟩
     ·rw [if_neg c13] at H
      exact absurd H (by simp)
 ·rw [if_neg c3] at H
  exact absurd H (by simp)

/-! ### spec_l4First: function 51 -/
def spec_l4First.f (a0_0 : ByteArray) (a0_1 : ByteArray) (l0_2 : List (S75)) (a0_3 : ByteArray) : Option (ByteArray) := if a0_0.size + 1 ≤ 9223372036854775807 then (if (a0_0 ++ (⟨#[32]⟩ : ByteArray)).size + a0_1.size ≤ 9223372036854775807 then (if ((a0_0 ++ (⟨#[32]⟩ : ByteArray)) ++ a0_1).size + 9 ≤ 9223372036854775807 then (some (((a0_0 ++ (⟨#[32]⟩ : ByteArray)) ++ a0_1) ++ (⟨#[32, 72, 84, 84, 80, 47, 49, 46, 49]⟩ : ByteArray))) else (none)) else (none)) else (none)
set_option maxHeartbeats 8000000 in
set_option maxRecDepth 100000 in
theorem spec_l4First.calls (a0_0 : ByteArray) (a0_1 : ByteArray) (A0_2 : Option Addr) (c0_2 : Nat) (l0_2 : List (S75)) (a0_3 : ByteArray) (r : ByteArray) (w : World) (hr0_2 : Kd.C k75 w A0_2 l0_2.length l0_2) (hc0_2 : l0_2.length ≤ c0_2) (h : spec_l4First.f a0_0 a0_1 l0_2 a0_3 = some r) :
  Calls Tryz.prog 51 #[.agg #[.string a0_0, .string a0_1, .slice A0_2 l0_2.length c0_2, .string a0_3]] w fun e w' => e = .returned (.string r) ∧ Below w.heap.size w w' := by
 have hu24 := Tryz.underlying24
 have HR0_2 := ak hr0_2
 have HC0_2 := ak hc0_2
 clear hr0_2 hc0_2
 have HB := ak (Below.refl w.heap.size w)
 have H : (if a0_0.size + 1 ≤ 9223372036854775807 then (if (a0_0 ++ (⟨#[32]⟩ : ByteArray)).size + a0_1.size ≤ 9223372036854775807 then (if ((a0_0 ++ (⟨#[32]⟩ : ByteArray)) ++ a0_1).size + 9 ≤ 9223372036854775807 then (some (((a0_0 ++ (⟨#[32]⟩ : ByteArray)) ++ a0_1) ++ (⟨#[32, 72, 84, 84, 80, 47, 49, 46, 49]⟩ : ByteArray))) else (none)) else (none)) else (none)) = some r := h
 clear h
 by_cases c2 : a0_0.size + 1 ≤ 9223372036854775807
 ·rw [if_pos c2] at H
  have c2b0 := eq_true c2
  have c2b1 : decide (a0_0.size + 1 ≤ 9223372036854775807) = true := decide_eq_true c2
  try have c2b2 : (9223372036854775807 < a0_0.size + 1) = False := eq_false (Nat.not_lt.2 c2)
  by_cases c3 : (a0_0 ++ (⟨#[32]⟩ : ByteArray)).size + a0_1.size ≤ 9223372036854775807
  ·rw [if_pos c3] at H
   have c3b0 := eq_true c3
   have c3b1 : decide ((a0_0 ++ (⟨#[32]⟩ : ByteArray)).size + a0_1.size ≤ 9223372036854775807) = true := decide_eq_true c3
   try have c3b2 : (9223372036854775807 < (a0_0 ++ (⟨#[32]⟩ : ByteArray)).size + a0_1.size) = False := eq_false (Nat.not_lt.2 c3)
   try have c3b3 : (9223372036854775807 < a0_0.size + 1 + a0_1.size) = False := by (have h_ := c3b2; simp only [ByteArray.size_append] at h_; exact h_)
   by_cases c4 : ((a0_0 ++ (⟨#[32]⟩ : ByteArray)) ++ a0_1).size + 9 ≤ 9223372036854775807
   ·rw [if_pos c4] at H
    have c4b0 := eq_true c4
    have c4b1 : decide (((a0_0 ++ (⟨#[32]⟩ : ByteArray)) ++ a0_1).size + 9 ≤ 9223372036854775807) = true := decide_eq_true c4
    try have c4b2 : (9223372036854775807 < ((a0_0 ++ (⟨#[32]⟩ : ByteArray)) ++ a0_1).size + 9) = False := eq_false (Nat.not_lt.2 c4)
    try have c4b3 : (9223372036854775807 < a0_0.size + 1 + a0_1.size + 9) = False := by (have h_ := c4b2; simp only [ByteArray.size_append] at h_; exact h_)
    obtain rfl := Option.some.inj H
    go_enter Tryz.func51, Tryz.ntmps51
    go_wp2_with (first | ((with_reducible refine gd 1 ?_); refine bE 1 #[.string a0_0, .string a0_1, .slice A0_2 l0_2.length c0_2, .string a0_3] 24 ?_; intro gb154 hg w5 hbox hb; have BK154 := ak hbox; have GW154 := gs hg (bl HB.out); have GE154 := gs hg (bl HB.out); replace HB := ak (below_step (bl HB.out) hb); clear hb hbox hg; obtain ⟨hcz6_0, hcz6_1, hcz6_2, hcz6_3, hfz6_0, hfz6_1, hfz6_2, hfz6_3⟩ := b4 BK154.out))
    go_ret
    exact ⟨by first | rfl | (simp [errW_none, errW_some] <;> rfl) | (simp [*, errW_none, errW_some] <;> rfl), bl1 HB.out GE154.out⟩
   ·rw [if_neg c4] at H
    exact absurd H (by simp)
  ·rw [if_neg c3] at H
   exact absurd H (by simp)
 ·rw [if_neg c2] at H
  exact absurd H (by simp)

/-! ### spec_l3Fields: function 63 -/
def spec_l3Fields.l0 : Nat → List (S75) → List (S75) → Int → Int → Option (Bool)
 | 0, _, _, _, _ => none
 | k + 1, x0, x5, x6, x7 => if x7 < x6 then (if 0 ≤ x7 then (if x7 < (x5.length : Int) then ((spec_GoodField.f k ((rd_T75 x5 x7).f0) ((rd_T75 x5 x7).f1)).bind fun t157 => (if t157 = true then (spec_l3Fields.l0 k x0 x5 x6 (wrap64 (x7 + 1))) else (some false))) else (none)) else (none)) else (some (decide ((x0.length : Int) ≤ 40)))
def spec_l3Fields.f (k : Nat) (l0 : List (S75)) : Option (Bool) := spec_l3Fields.l0 k l0 l0 (l0.length : Int) 0
theorem spec_l3Fields.mono_l : ∀ k, (∀ y0 y1 y2 y3, LeO (spec_l3Fields.l0 k y0 y1 y2 y3) (spec_l3Fields.l0 (k + 1) y0 y1 y2 y3))
 | 0 => fun _ _ _ _ r h => by simp [spec_l3Fields.l0] at h
 | k + 1 => by
  have ih0 := spec_l3Fields.mono_l k
  ·intro y0 y1 y2 y3
   unfold spec_l3Fields.l0
   repeat' with_reducible first | exact ih0 _ _ _ _ | exact spec_GoodField.mono _ _ _ | exact LeO.refl _ | exact LeO.none _ | refine LeO.ite ?_ ?_ | refine LeO.bind ?_ (fun _ => ?_)
theorem spec_l3Fields.mono : ∀ a0 k, LeO (spec_l3Fields.f k a0) (spec_l3Fields.f (k + 1) a0) := by
 intro a0 k
 have ih0 := spec_l3Fields.mono_l k
 unfold spec_l3Fields.f
 repeat' with_reducible first | exact ih0 _ _ _ _ | exact spec_GoodField.mono _ _ _ | exact LeO.refl _ | exact LeO.none _ | refine LeO.ite ?_ ?_ | refine LeO.bind ?_ (fun _ => ?_)
set_option maxHeartbeats 8000000 in
set_option maxRecDepth 100000 in
theorem spec_l3Fields.calls (k : Nat) (A0 : Option Addr) (c0 : Nat) (l0 : List (S75)) (r : Bool) (w : World) (hr0 : Kd.C k75 w A0 l0.length l0) (hc0 : l0.length ≤ c0) (h : spec_l3Fields.f k l0 = some r) :
  Calls Tryz.prog 63 #[.slice A0 l0.length c0] w fun e w' => e = .returned (.bool r) ∧ Below w.heap.size w w' := by
 have hu75 := Tryz.underlying75
 have HR0 := ak hr0
 have HC0 := ak hc0
 clear hr0 hc0
 have HB := ak (Below.refl w.heap.size w)
 have H : (spec_l3Fields.l0 k l0 l0 (l0.length : Int) 0) = some r := h
 clear h
 have H' := ak H
 clear H
 go_enter Tryz.func63, Tryz.ntmps63
 go_wp2
 go_loopg [7] k (fun kq v7 w' => ∃ (x7_1 : Int), v7 = .int .i64 x7_1 ∧ Aside0 (spec_l3Fields.l0 kq l0 l0 (l0.length : Int) x7_1 = some r) ∧ Aside0 (kq ≤ k) ∧ Aside0 (Below w.heap.size w w'))
 case atStart => exact ⟨(0), (by first | rfl | (simp; done) | (simp [*]; done)), H', ⟨Nat.le_refl _⟩, ⟨bl HB.out⟩⟩
 case round =>
  clear H'
  obtain ⟨x7_1, rfl, HA, HK1, HB⟩ := hrel
  cases gk with
  | zero => exact absurd HA.out (by simp [spec_l3Fields.l0])
  | succ k1 =>
   have H := HA.out
   clear HA
   simp only [spec_l3Fields.l0] at H
   by_cases c2 : x7_1 < (l0.length : Int)
   ·rw [if_pos c2] at H
    have c2b0 : decide (x7_1 < (l0.length : Int)) = true := decide_eq_true c2
    clear c2
    by_cases c3 : 0 ≤ x7_1
    ·rw [if_pos c3] at H
     have c3b0 : decide (0 ≤ x7_1) = true := decide_eq_true c3
     clear c3
     by_cases c4 : x7_1 < (l0.length : Int)
     ·rw [if_pos c4] at H
      have c4b0 : decide (x7_1 < (l0.length : Int)) = true := decide_eq_true c4
      clear c4
      replace H := bs H
      obtain ⟨t157, A5, H⟩ := H
      try dsimp only at H
      by_cases c6 : t157 = true
      ·subst c6
       rw [if_pos rfl] at H
       have H' := ak H
       clear H
       have p155 : 0 ≤ (x7_1 : Int) := od
       have q155 : x7_1 < (l0.length : Int) := od
       obtain ⟨ad155, e155, hx155_0, hx155_1⟩ := at_T75 HR0.out x7_1 p155 q155
       cases e155
       replace hx155_0 := (HB.out.cell (World.block_lt_of_cell? w _ hx155_0)).trans hx155_0
       replace hx155_1 := (HB.out.cell (World.block_lt_of_cell? w _ hx155_1)).trans hx155_1
       replace p155 := eq_true p155
       replace q155 := eq_true q155
       go_wp2_with (first | ((with_reducible refine gd 4 ?_); refine bE 4 #[.string (⟨#[]⟩ : ByteArray), .string (⟨#[]⟩ : ByteArray)] 75 ?_; intro gb156 hg w7 hbox hb; have BK156 := ak hbox; have GW156 := gs hg (bl HB.out); have GE156 := gs hg (bl HB.out); replace HB := ak (below_step (bl HB.out) hb); clear hb hbox hg; obtain ⟨hcz8_0, hcz8_1, hfz8_0, hfz8_1⟩ := b2 BK156.out) | ((with_reducible refine gc 60 ?_); refine gL 60 Tryz.func60 (some 12) #[.agg #[.string ((rd_T75 l0 x7_1).f0), .string ((rd_T75 l0 x7_1).f1)]] ?_; (with_reducible refine (spec_GoodField.calls k1 ((rd_T75 l0 x7_1).f0) ((rd_T75 l0 x7_1).f1) true _ A5.out).mono ?_); rintro e w9 ⟨rfl, hb⟩; refine ⟨_, rfl, ?_⟩; replace BK156 := ak (blk_below (g := gb156) (o := .cells #[.string ((rd_T75 l0 x7_1).f0), .string ((rd_T75 l0 x7_1).f1)] 75 (0, 0)) (bq BK156.out) hb); replace HB := ak (below_step (bl1 HB.out GE156.out) hb); clear hb))
       go_roundg k1
       case measure => have := HK1.out; omega
       case rel => exact ⟨(wrap64 (x7_1 + 1)), (by first | rfl | (simp; done) | (simp [*]; done)), H', ⟨by have := HK1.out; omega⟩, ⟨bl1 HB.out GE156.out⟩⟩
      ·replace c6 := Bool.eq_false_iff.mpr c6
       subst c6
       rw [if_neg ff] at H
       obtain rfl := Option.some.inj H
       have p155 : 0 ≤ (x7_1 : Int) := od
       have q155 : x7_1 < (l0.length : Int) := od
       obtain ⟨ad155, e155, hx155_0, hx155_1⟩ := at_T75 HR0.out x7_1 p155 q155
       cases e155
       replace hx155_0 := (HB.out.cell (World.block_lt_of_cell? w _ hx155_0)).trans hx155_0
       replace hx155_1 := (HB.out.cell (World.block_lt_of_cell? w _ hx155_1)).trans hx155_1
       replace p155 := eq_true p155
       replace q155 := eq_true q155
       go_wp2_with (first | ((with_reducible refine gd 4 ?_); refine bE 4 #[.string (⟨#[]⟩ : ByteArray), .string (⟨#[]⟩ : ByteArray)] 75 ?_; intro gb156 hg w10 hbox hb; have BK156 := ak hbox; have GW156 := gs hg (bl HB.out); have GE156 := gs hg (bl HB.out); replace HB := ak (below_step (bl HB.out) hb); clear hb hbox hg; obtain ⟨hcz11_0, hcz11_1, hfz11_0, hfz11_1⟩ := b2 BK156.out) | ((with_reducible refine gc 60 ?_); refine gL 60 Tryz.func60 (some 12) #[.agg #[.string ((rd_T75 l0 x7_1).f0), .string ((rd_T75 l0 x7_1).f1)]] ?_; (with_reducible refine (spec_GoodField.calls k1 ((rd_T75 l0 x7_1).f0) ((rd_T75 l0 x7_1).f1) false _ A5.out).mono ?_); rintro e w12 ⟨rfl, hb⟩; refine ⟨_, rfl, ?_⟩; replace BK156 := ak (blk_below (g := gb156) (o := .cells #[.string ((rd_T75 l0 x7_1).f0), .string ((rd_T75 l0 x7_1).f1)] 75 (0, 0)) (bq BK156.out) hb); replace HB := ak (below_step (bl1 HB.out GE156.out) hb); clear hb))
       go_ret
       exact ⟨by first | rfl | (simp [errW_none, errW_some] <;> rfl) | (simp [*, errW_none, errW_some] <;> rfl), bl1 HB.out GE156.out⟩
     ·rw [if_neg c4] at H
      exact absurd H (by simp)
    ·rw [if_neg c3] at H
     exact absurd H (by simp)
   ·rw [if_neg c2] at H
    have c2b0 : decide (x7_1 < (l0.length : Int)) = false := decide_eq_false c2
    clear c2
    obtain rfl := Option.some.inj H
    go_wp2
    go_ret
    exact ⟨by first | rfl | (simp [errW_none, errW_some] <;> rfl) | (simp [*, errW_none, errW_some] <;> rfl), bl HB.out⟩

/-! ### spec_l4Framed: function 64 -/
def spec_l4Framed.f (k : Nat) (l0 : List (S75)) (a1 : ByteArray) : Option (Bool) := (spec_l4Length.f k l0).bind fun t158 => (if t158 = (-1) then (if 0 = (a1.size : Int) then (if (a1.size : Int) ≤ 300 then ((spec_l3Values.f k l0 (⟨#[116, 114, 97, 110, 115, 102, 101, 114, 45, 101, 110, 99, 111, 100, 105, 110, 103]⟩ : ByteArray)).bind fun t159 => (some ((t159.length : Int) == 0))) else (some false)) else (some false)) else (if t158 = (a1.size : Int) then (if (a1.size : Int) ≤ 300 then ((spec_l3Values.f k l0 (⟨#[116, 114, 97, 110, 115, 102, 101, 114, 45, 101, 110, 99, 111, 100, 105, 110, 103]⟩ : ByteArray)).bind fun t162 => (some ((t162.length : Int) == 0))) else (some false)) else (some false)))
theorem spec_l4Framed.mono : ∀ a0 a1 k, LeO (spec_l4Framed.f k a0 a1) (spec_l4Framed.f (k + 1) a0 a1) := by
 intro a0 a1 k
 unfold spec_l4Framed.f
 repeat' with_reducible first | exact spec_l3Values.mono _ _ _ | exact spec_l4Length.mono _ _ | exact LeO.refl _ | exact LeO.none _ | refine LeO.ite ?_ ?_ | refine LeO.bind ?_ (fun _ => ?_)
set_option maxHeartbeats 8000000 in
set_option maxRecDepth 100000 in
theorem spec_l4Framed.calls (k : Nat) (A0 : Option Addr) (c0 : Nat) (l0 : List (S75)) (a1 : ByteArray) (r : Bool) (w : World) (hr0 : Kd.C k75 w A0 l0.length l0) (hc0 : l0.length ≤ c0) (h : spec_l4Framed.f k l0 a1 = some r) :
  Calls Tryz.prog 64 #[.slice A0 l0.length c0, .string a1] w fun e w' => e = .returned (.bool r) ∧ Below w.heap.size w w' := by
 have HR0 := ak hr0
 have HC0 := ak hc0
 clear hr0 hc0
 have HB := ak (Below.refl w.heap.size w)
 have H : ((spec_l4Length.f k l0).bind fun t158 => (if t158 = (-1) then (if 0 = (a1.size : Int) then (if (a1.size : Int) ≤ 300 then ((spec_l3Values.f k l0 (⟨#[116, 114, 97, 110, 115, 102, 101, 114, 45, 101, 110, 99, 111, 100, 105, 110, 103]⟩ : ByteArray)).bind fun t159 => (some ((t159.length : Int) == 0))) else (some false)) else (some false)) else (if t158 = (a1.size : Int) then (if (a1.size : Int) ≤ 300 then ((spec_l3Values.f k l0 (⟨#[116, 114, 97, 110, 115, 102, 101, 114, 45, 101, 110, 99, 111, 100, 105, 110, 103]⟩ : ByteArray)).bind fun t162 => (some ((t162.length : Int) == 0))) else (some false)) else (some false)))) = some r := h
 clear h
 replace H := bs H
 obtain ⟨t158, A3, H⟩ := H
 try dsimp only at H
 by_cases c4 : t158 = (-1)
 ·rw [if_pos c4] at H
  have c4b0 : (t158 == (-1)) = true := beq_iff_eq.mpr c4
  have c4b1 : (t158 != (-1)) = false := bne_eq_false_iff_eq.mpr c4
  clear c4
  by_cases c5 : 0 = (a1.size : Int)
  ·rw [if_pos c5] at H
   have c5b0 : (0 == (a1.size : Int)) = true := beq_iff_eq.mpr c5
   have c5b1 : (0 != (a1.size : Int)) = false := bne_eq_false_iff_eq.mpr c5
   clear c5
   by_cases c6 : (a1.size : Int) ≤ 300
   ·rw [if_pos c6] at H
    have c6b0 : decide ((a1.size : Int) ≤ 300) = true := decide_eq_true c6
    have c6b1 : decide (a1.size ≤ 300) = true := decide_eq_true (by omega)
    clear c6
    replace H := bs H
    obtain ⟨t159, A7, H⟩ := H
    try dsimp only at H
    obtain rfl := Option.some.inj H
    go_enter Tryz.func64, Tryz.ntmps64
    go_wp2_with (first | ((with_reducible refine gc 62 ?_); refine gL 62 Tryz.func62 (some 7) #[.slice A0 l0.length c0] ?_; (with_reducible refine (spec_l4Length.calls k _ _ l0 t158 _ ?side1 ?side2 A3.out).mono ?_); (case side1 => exact kc HR0.out); (case side2 => exact HC0.out); rintro e w8 ⟨rfl, hb⟩; refine ⟨_, rfl, ?_⟩; replace HB := ak (below_step (bl HB.out) hb); clear hb) | (go_at_call 91; (with_reducible refine (spec_l3Values.calls k _ _ l0 (⟨#[116, 114, 97, 110, 115, 102, 101, 114, 45, 101, 110, 99, 111, 100, 105, 110, 103]⟩ : ByteArray) t159 _ ?side1 ?side2 A7.out).mono ?_); (case side1 => exact kc (Kd.C_below HR0.out HB.out)); (case side2 => exact HC0.out); rintro e w9 ⟨v160, rfl, ho0, hb⟩; have HO161 := ak (Kd.R_lower ho0 (below_size (bl HB.out))); replace HB := ak (below_step (bl HB.out) hb); clear hb ho0; obtain ⟨Ao10, co10, eo10⟩ := Kd.R_slice HO161.out; subst eo10))
    go_ret
    exact ⟨by first | rfl | (simp [errW_none, errW_some] <;> rfl) | (simp [*, errW_none, errW_some] <;> rfl), bl HB.out⟩
   ·rw [if_neg c6] at H
    have c6b0 : decide ((a1.size : Int) ≤ 300) = false := decide_eq_false c6
    have c6b1 : decide (a1.size ≤ 300) = false := decide_eq_false (by omega)
    clear c6
    obtain rfl := Option.some.inj H
    go_enter Tryz.func64, Tryz.ntmps64
    go_wp2_with (first | ((with_reducible refine gc 62 ?_); refine gL 62 Tryz.func62 (some 7) #[.slice A0 l0.length c0] ?_; (with_reducible refine (spec_l4Length.calls k _ _ l0 t158 _ ?side1 ?side2 A3.out).mono ?_); (case side1 => exact kc HR0.out); (case side2 => exact HC0.out); rintro e w11 ⟨rfl, hb⟩; refine ⟨_, rfl, ?_⟩; replace HB := ak (below_step (bl HB.out) hb); clear hb))
    go_ret
    exact ⟨by first | rfl | (simp [errW_none, errW_some] <;> rfl) | (simp [*, errW_none, errW_some] <;> rfl), bl HB.out⟩
  ·rw [if_neg c5] at H
   have c5b0 : (0 == (a1.size : Int)) = false := beq_eq_false_iff_ne.mpr c5
   have c5b1 : (0 != (a1.size : Int)) = true := bne_iff_ne.mpr c5
   obtain rfl := Option.some.inj H
   go_enter Tryz.func64, Tryz.ntmps64
   go_wp2_with (first | ((with_reducible refine gc 62 ?_); refine gL 62 Tryz.func62 (some 7) #[.slice A0 l0.length c0] ?_; (with_reducible refine (spec_l4Length.calls k _ _ l0 t158 _ ?side1 ?side2 A3.out).mono ?_); (case side1 => exact kc HR0.out); (case side2 => exact HC0.out); rintro e w12 ⟨rfl, hb⟩; refine ⟨_, rfl, ?_⟩; replace HB := ak (below_step (bl HB.out) hb); clear hb))
   go_ret
   exact ⟨by first | rfl | (simp [errW_none, errW_some] <;> rfl) | (simp [*, errW_none, errW_some] <;> rfl), bl HB.out⟩
 ·rw [if_neg c4] at H
  have c4b0 : (t158 == (-1)) = false := beq_eq_false_iff_ne.mpr c4
  have c4b1 : (t158 != (-1)) = true := bne_iff_ne.mpr c4
  by_cases c13 : t158 = (a1.size : Int)
  ·rw [if_pos c13] at H
   have c13b0 : (t158 == (a1.size : Int)) = true := beq_iff_eq.mpr c13
   have c13b1 : (t158 != (a1.size : Int)) = false := bne_eq_false_iff_eq.mpr c13
   clear c13
   by_cases c14 : (a1.size : Int) ≤ 300
   ·rw [if_pos c14] at H
    have c14b0 : decide ((a1.size : Int) ≤ 300) = true := decide_eq_true c14
    have c14b1 : decide (a1.size ≤ 300) = true := decide_eq_true (by omega)
    clear c14
    replace H := bs H
    obtain ⟨t162, A15, H⟩ := H
    try dsimp only at H
    obtain rfl := Option.some.inj H
    go_enter Tryz.func64, Tryz.ntmps64
    go_wp2_with (first | ((with_reducible refine gc 62 ?_); refine gL 62 Tryz.func62 (some 7) #[.slice A0 l0.length c0] ?_; (with_reducible refine (spec_l4Length.calls k _ _ l0 t158 _ ?side1 ?side2 A3.out).mono ?_); (case side1 => exact kc HR0.out); (case side2 => exact HC0.out); rintro e w16 ⟨rfl, hb⟩; refine ⟨_, rfl, ?_⟩; replace HB := ak (below_step (bl HB.out) hb); clear hb) | (go_at_call 91; (with_reducible refine (spec_l3Values.calls k _ _ l0 (⟨#[116, 114, 97, 110, 115, 102, 101, 114, 45, 101, 110, 99, 111, 100, 105, 110, 103]⟩ : ByteArray) t162 _ ?side1 ?side2 A15.out).mono ?_); (case side1 => exact kc (Kd.C_below HR0.out HB.out)); (case side2 => exact HC0.out); rintro e w17 ⟨v163, rfl, ho0, hb⟩; have HO164 := ak (Kd.R_lower ho0 (below_size (bl HB.out))); replace HB := ak (below_step (bl HB.out) hb); clear hb ho0; obtain ⟨Ao18, co18, eo18⟩ := Kd.R_slice HO164.out; subst eo18))
    go_ret
    exact ⟨by first | rfl | (simp [errW_none, errW_some] <;> rfl) | (simp [*, errW_none, errW_some] <;> rfl), bl HB.out⟩
   ·rw [if_neg c14] at H
    have c14b0 : decide ((a1.size : Int) ≤ 300) = false := decide_eq_false c14
    have c14b1 : decide (a1.size ≤ 300) = false := decide_eq_false (by omega)
    clear c14
    obtain rfl := Option.some.inj H
    go_enter Tryz.func64, Tryz.ntmps64
    go_wp2_with (first | ((with_reducible refine gc 62 ?_); refine gL 62 Tryz.func62 (some 7) #[.slice A0 l0.length c0] ?_; (with_reducible refine (spec_l4Length.calls k _ _ l0 t158 _ ?side1 ?side2 A3.out).mono ?_); (case side1 => exact kc HR0.out); (case side2 => exact HC0.out); rintro e w19 ⟨rfl, hb⟩; refine ⟨_, rfl, ?_⟩; replace HB := ak (below_step (bl HB.out) hb); clear hb))
    go_ret
    exact ⟨by first | rfl | (simp [errW_none, errW_some] <;> rfl) | (simp [*, errW_none, errW_some] <;> rfl), bl HB.out⟩
  ·rw [if_neg c13] at H
   have c13b0 : (t158 == (a1.size : Int)) = false := beq_eq_false_iff_ne.mpr c13
   have c13b1 : (t158 != (a1.size : Int)) = true := bne_iff_ne.mpr c13
   obtain rfl := Option.some.inj H
   go_enter Tryz.func64, Tryz.ntmps64
   go_wp2_with (first | ((with_reducible refine gc 62 ?_); refine gL 62 Tryz.func62 (some 7) #[.slice A0 l0.length c0] ?_; (with_reducible refine (spec_l4Length.calls k _ _ l0 t158 _ ?side1 ?side2 A3.out).mono ?_); (case side1 => exact kc HR0.out); (case side2 => exact HC0.out); rintro e w20 ⟨rfl, hb⟩; refine ⟨_, rfl, ?_⟩; replace HB := ak (below_step (bl HB.out) hb); clear hb))
   go_ret
   exact ⟨by first | rfl | (simp [errW_none, errW_some] <;> rfl) | (simp [*, errW_none, errW_some] <;> rfl), bl HB.out⟩

end Go.Proofs.YthneflfbafieeaaGreatDoor.PFnTorn
