-- written by a program of this session (wip/tool)
import Derived.Test.YtobbhgghpjecjaaDoorPFnBitsx0
import Derived.Test.YtobbhgghpjecjaaDoorPFnBitsx1
import Derived.Test.YtobbhgghpjecjaaDoorOwn0
import Derived.Test.YtobbhgghpjecjaaDoorOwnOpen
import Derived.Test.YtobbhgghpjecjaaDoorOwnDec
import Derived.Test.YtobbhgghpjecjaaDoorOwnBld
import Derived.Test.YtobbhgghpjecjaaDoorOwnRep
import Derived.Test.YtobbhgghpjecjaaDoorOwnShort
import Derived.WalkKit
import Derived.BigCall
namespace Go.Proofs.YtobbhgghpjecjaaDoor.PFnBits
open Go.RowKit Go.Proofs.YtobbhgghpjecjaaDoorW.PrintWords Go.Proofs.YtobbhgghpjecjaaDoorW.PrintLast Go.Proofs.YtobbhgghpjecjaaDoorW.PrintMore Go.Shelf Go.Proofs.YtobbhgghpjecjaaDoorOwn
attribute [local go_sem] max2_int min2_int max_two min_two max_three min_three max_four min_four   -- for this text's walks alone
set_option linter.unusedVariables false
set_option linter.unusedSimpArgs false

/-! ### spec_DecodeBits: function 6 -/
mutual
def spec_DecodeBits.j0 : Nat → List Int → ByteArray → Bool → Option (List Int × Bool)
 | 0, _, _, _ => none
 | k + 1, x0, x1, x18 => if x18 = true then (some (([] : List Int), false)) else ((spec_l15Codes.f k x0).bind fun t119 => (spec_DecodeBits.l0 k x1 t119 ([] : List Int)))
def spec_DecodeBits.l0 : Nat → ByteArray → List ByteArray → List Int → Option (List Int × Bool)
 | 0, _, _, _ => none
 | k + 1, x1, x6, x7 => if x1.toList = ([] : List UInt8) then (some (x7, true)) else (spec_DecodeBits.l1 k x1 x6 x7 (-1) x6 (x6.length : Int) 0)
def spec_DecodeBits.l1 : Nat → ByteArray → List ByteArray → List Int → Int → List ByteArray → Int → Int → Option (List Int × Bool)
 | 0, _, _, _, _, _, _, _ => none
 | k + 1, x1, x6, x7, x8, x23, x24, x25 => if x25 < x24 then (if 0 ≤ x25 then (if x25 < (x23.length : Int) then (if (rdOf ByteArray.empty x23 x25).toList = ([] : List UInt8) then (spec_DecodeBits.l1 k x1 x6 x7 x8 x23 x24 (wrap64 (x25 + 1))) else (if ((rdOf ByteArray.empty x23 x25).size : Int) ≤ (x1.size : Int) then (if 0 ≤ ((rdOf ByteArray.empty x23 x25).size : Int) then (if (x1.extract 0 (((rdOf ByteArray.empty x23 x25).size : Int) : Int).toNat).toList = (rdOf ByteArray.empty x23 x25).toList then (if x25 < 0 then (some (([] : List Int), false)) else (if (x7.length : Int) = 200 then (some (([] : List Int), false)) else (if x7.length < 17592186044416 then (if x25 < (x6.length : Int) then (if 0 ≤ ((rdOf ByteArray.empty x6 x25).size : Int) then (if ((rdOf ByteArray.empty x6 x25).size : Int) ≤ (x1.size : Int) then (spec_DecodeBits.l0 k (x1.extract (((rdOf ByteArray.empty x6 x25).size : Int) : Int).toNat x1.size) x6 (x7 ++ [x25])) else (none)) else (none)) else (none)) else (none)))) else (spec_DecodeBits.l1 k x1 x6 x7 x8 x23 x24 (wrap64 (x25 + 1)))) else (none)) else (spec_DecodeBits.l1 k x1 x6 x7 x8 x23 x24 (wrap64 (x25 + 1))))) else (none)) else (none)) else (if x8 < 0 then (some (([] : List Int), false)) else (if (x7.length : Int) = 200 then (some (([] : List Int), false)) else (if x7.length < 17592186044416 then (if 0 ≤ x8 then (if x8 < (x6.length : Int) then (if 0 ≤ ((rdOf ByteArray.empty x6 x8).size : Int) then (if ((rdOf ByteArray.empty x6 x8).size : Int) ≤ (x1.size : Int) then (spec_DecodeBits.l0 k (x1.extract (((rdOf ByteArray.empty x6 x8).size : Int) : Int).toNat x1.size) x6 (x7 ++ [x8])) else (none)) else (none)) else (none)) else (none)) else (none))))
end
def spec_DecodeBits.f (k : Nat) (l0 : List Int) (a1 : ByteArray) : Option (List Int × Bool) := (spec_l15Right.f k l0).bind fun t117 => (if t117 = true then ((spec_l15BitText.f k a1).bind fun t118 => (spec_DecodeBits.j0 k l0 a1 (!t118))) else (spec_DecodeBits.j0 k l0 a1 true))
theorem spec_DecodeBits.mono_l : ∀ k, (∀ y0 y1 y2, LeO (spec_DecodeBits.j0 k y0 y1 y2) (spec_DecodeBits.j0 (k + 1) y0 y1 y2)) ∧ (∀ y0 y1 y2, LeO (spec_DecodeBits.l0 k y0 y1 y2) (spec_DecodeBits.l0 (k + 1) y0 y1 y2)) ∧ (∀ y0 y1 y2 y3 y4 y5 y6, LeO (spec_DecodeBits.l1 k y0 y1 y2 y3 y4 y5 y6) (spec_DecodeBits.l1 (k + 1) y0 y1 y2 y3 y4 y5 y6))
 | 0 => ⟨fun _ _ _ r h => by simp [spec_DecodeBits.j0] at h, fun _ _ _ r h => by simp [spec_DecodeBits.l0] at h, fun _ _ _ _ _ _ _ r h => by simp [spec_DecodeBits.l1] at h⟩
 | k + 1 => by
  obtain ⟨ih0, ih1, ih2⟩ := spec_DecodeBits.mono_l k
  refine ⟨?_, ?_, ?_⟩
  ·intro y0 y1 y2
   unfold spec_DecodeBits.j0
   repeat' first
   | (with_reducible exact ih0 _ _ _)
   | (with_reducible exact ih1 _ _ _)
   | (with_reducible exact ih2 _ _ _ _ _ _ _)
   | (with_reducible exact spec_l15BitText.mono _ _)
   | (with_reducible exact spec_l15Codes.mono _ _)
   | (with_reducible exact spec_l15Right.mono _ _)
   | (with_reducible exact LeO.refl _)
   | (with_reducible exact LeO.none _)
   | (with_reducible refine LeO.ite ?_ ?_)
   | (with_reducible refine LeO.bind ?_ (fun _ => ?_))
   | exact ih0 _ _ _
   | exact ih1 _ _ _
   | exact ih2 _ _ _ _ _ _ _
   | exact spec_l15BitText.mono _ _
   | exact spec_l15Codes.mono _ _
   | exact spec_l15Right.mono _ _
   | exact LeO.none _
   | refine LeO.ite ?_ ?_
   | refine LeO.bind ?_ (fun _ => ?_)
  ·intro y0 y1 y2
   unfold spec_DecodeBits.l0
   repeat' first
   | (with_reducible exact ih0 _ _ _)
   | (with_reducible exact ih1 _ _ _)
   | (with_reducible exact ih2 _ _ _ _ _ _ _)
   | (with_reducible exact spec_l15BitText.mono _ _)
   | (with_reducible exact spec_l15Codes.mono _ _)
   | (with_reducible exact spec_l15Right.mono _ _)
   | (with_reducible exact LeO.refl _)
   | (with_reducible exact LeO.none _)
   | (with_reducible refine LeO.ite ?_ ?_)
   | (with_reducible refine LeO.bind ?_ (fun _ => ?_))
   | exact ih0 _ _ _
   | exact ih1 _ _ _
   | exact ih2 _ _ _ _ _ _ _
   | exact spec_l15BitText.mono _ _
   | exact spec_l15Codes.mono _ _
   | exact spec_l15Right.mono _ _
   | exact LeO.none _
   | refine LeO.ite ?_ ?_
   | refine LeO.bind ?_ (fun _ => ?_)
  ·intro y0 y1 y2 y3 y4 y5 y6
   unfold spec_DecodeBits.l1
   repeat' first
   | (with_reducible exact ih0 _ _ _)
   | (with_reducible exact ih1 _ _ _)
   | (with_reducible exact ih2 _ _ _ _ _ _ _)
   | (with_reducible exact spec_l15BitText.mono _ _)
   | (with_reducible exact spec_l15Codes.mono _ _)
   | (with_reducible exact spec_l15Right.mono _ _)
   | (with_reducible exact LeO.refl _)
   | (with_reducible exact LeO.none _)
   | (with_reducible refine LeO.ite ?_ ?_)
   | (with_reducible refine LeO.bind ?_ (fun _ => ?_))
   | exact ih0 _ _ _
   | exact ih1 _ _ _
   | exact ih2 _ _ _ _ _ _ _
   | exact spec_l15BitText.mono _ _
   | exact spec_l15Codes.mono _ _
   | exact spec_l15Right.mono _ _
   | exact LeO.none _
   | refine LeO.ite ?_ ?_
   | refine LeO.bind ?_ (fun _ => ?_)
theorem spec_DecodeBits.mono : ∀ a0 a1 k, LeO (spec_DecodeBits.f k a0 a1) (spec_DecodeBits.f (k + 1) a0 a1) := by
 intro a0 a1 k
 obtain ⟨ih0, ih1, ih2⟩ := spec_DecodeBits.mono_l k
 unfold spec_DecodeBits.f
 repeat' first
   | (with_reducible exact ih0 _ _ _)
   | (with_reducible exact ih1 _ _ _)
   | (with_reducible exact ih2 _ _ _ _ _ _ _)
   | (with_reducible exact spec_l15BitText.mono _ _)
   | (with_reducible exact spec_l15Codes.mono _ _)
   | (with_reducible exact spec_l15Right.mono _ _)
   | (with_reducible exact LeO.refl _)
   | (with_reducible exact LeO.none _)
   | (with_reducible refine LeO.ite ?_ ?_)
   | (with_reducible refine LeO.bind ?_ (fun _ => ?_))
   | exact ih0 _ _ _
   | exact ih1 _ _ _
   | exact ih2 _ _ _ _ _ _ _
   | exact spec_l15BitText.mono _ _
   | exact spec_l15Codes.mono _ _
   | exact spec_l15Right.mono _ _
   | exact LeO.none _
   | refine LeO.ite ?_ ?_
   | refine LeO.bind ?_ (fun _ => ?_)
set_option maxHeartbeats 8000000 in
set_option maxRecDepth 100000 in
theorem spec_DecodeBits.calls (k : Nat) (A0 : Option Addr) (c0 : Nat) (l0 : List Int) (a1 : ByteArray) (r1 : List Int) (r2 : Bool) (w : World) (hr0 : Kd.C (Kd.int .i64) w A0 l0.length l0) (hc0 : l0.length ≤ c0) (h : spec_DecodeBits.f k l0 a1 = some (r1, r2)) :
  Calls Tryd.prog 6 #[.slice A0 l0.length c0, .string a1] w fun e w' => ∃ v0_ : Value, e = .returned (.tuple #[v0_, .bool r2]) ∧ Kd.R (Kd.int .i64) 3 w' w.heap.size (fun _ => True) v0_ r1 ∧ Below w.heap.size w w' := by
 have HR0 := Aside0.mk hr0
 have HC0 := Aside0.mk hc0
 clear hr0 hc0
 have HB := Aside0.mk (Below.refl w.heap.size w)
 have H : ((spec_l15Right.f k l0).bind fun t117 => (if t117 = true then ((spec_l15BitText.f k a1).bind fun t118 => (spec_DecodeBits.j0 k l0 a1 (!t118))) else (spec_DecodeBits.j0 k l0 a1 true))) = some (r1, r2) := h
 clear h
 have HC3 := Aside0.mk H
 clear H
 go_enter Tryd.func6, Tryd.ntmps6
 go_upto_region 1 with (fail)
 go_cut [18] (fun v18 wc => ∃ (kq : Nat) (x18_2 : Bool), v18 = .bool x18_2 ∧ Aside0 (spec_DecodeBits.j0 kq l0 a1 x18_2 = some (r1, r2)) ∧ Aside0 (kq ≤ k) ∧ Aside0 (Below w.heap.size w wc))
 case first =>
  have H := HC3.out
  clear HC3
  replace H := Option.bind_eq_some_iff.mp H
  obtain ⟨t117, A40, H⟩ := H
  try dsimp only at H
  have A4 := Aside0.mk A40
  clear A40
  by_cases c5 : t117 = true
  ·subst c5
   have H1 : ((spec_l15BitText.f k a1).bind fun t118 => (spec_DecodeBits.j0 k l0 a1 (!t118))) = some (r1, r2) := by rw [if_pos rfl] at H; exact H
   clear H
   have H := H1
   clear H1
   replace H := Option.bind_eq_some_iff.mp H
   obtain ⟨t118, A60, H⟩ := H
   try dsimp only at H
   have A6 := Aside0.mk A60
   clear A60
   have H' := Aside0.mk H
   clear H
   go_wp2_with (first | ((with_reducible refine gate_callee (f := 21) rfl ?_); refine goesL_ (some 12) rfl rfl Tryd.func21 (by kernel_rfl) rfl #[.slice A0 l0.length c0] rfl (by (try simp only [List.map_toArray, List.map_cons, List.map_nil]); first | done | rfl | (simp only [List.length_drop, List.length_take]; rfl)) ?_; (with_reducible refine (spec_l15Right.calls k _ _ l0 true _ ?side1 ?side2 A4.out).mono ?_); (case side1 => exact kc (Kd.C_below HR0.out HB.out)); (case side2 => exact HC0.out); rintro e w' ⟨rfl, ⟨nd, rfl⟩⟩; refine ⟨_, rfl, ?_⟩) | (go_at_call 22; (with_reducible refine (spec_l15BitText.calls k a1 t118 _ A6.out).mono ?_); rintro e w' ⟨rfl, ⟨nd, rfl⟩⟩))
   go_meet
   case rel => exact ⟨_, (!t118), (by first | rfl | (simp; done) | (simp [*]; done)), H', ⟨by first | omega | exact Nat.le_refl _⟩, ⟨bl HB.out⟩⟩
  ·replace c5 := Bool.eq_false_iff.mpr c5
   subst c5
   have H1 : (spec_DecodeBits.j0 k l0 a1 true) = some (r1, r2) := by rw [if_neg (show ¬ (false = true) by decide)] at H; exact H
   clear H
   have H := H1
   clear H1
   have H' := Aside0.mk H
   clear H
   go_wp2_with (first | ((with_reducible refine gate_callee (f := 21) rfl ?_); refine goesL_ (some 12) rfl rfl Tryd.func21 (by kernel_rfl) rfl #[.slice A0 l0.length c0] rfl (by (try simp only [List.map_toArray, List.map_cons, List.map_nil]); first | done | rfl | (simp only [List.length_drop, List.length_take]; rfl)) ?_; (with_reducible refine (spec_l15Right.calls k _ _ l0 false _ ?side1 ?side2 A4.out).mono ?_); (case side1 => exact kc (Kd.C_below HR0.out HB.out)); (case side2 => exact HC0.out); rintro e w' ⟨rfl, ⟨nd, rfl⟩⟩; refine ⟨_, rfl, ?_⟩))
   go_meet
   case rel => exact ⟨_, (true), (by first | rfl | (simp; done) | (simp [*]; done)), H', ⟨by first | omega | exact Nat.le_refl _⟩, ⟨bl HB.out⟩⟩
 case rest =>
  clear HC3
  try clear c2
  try clear p2
  try clear c5
  try clear c6
  obtain ⟨kq, x18_2, rfl, HA, HJ2, HB⟩ := hcut
  cases kq with
  | zero => exact absurd HA.out (by simp [spec_DecodeBits.j0])
  | succ kj2 =>
   have H := HA.out
   clear HA
   simp only [spec_DecodeBits.j0] at H
   by_cases c7 : x18_2 = true
   ·subst c7
    have H1 : (some (([] : List Int), false)) = some (r1, r2) := by rw [if_pos rfl] at H; exact H
    clear H
    have H := H1
    clear H1
    simp only [Option.some.injEq, Prod.mk.injEq] at H
    obtain ⟨rfl, rfl⟩ := H
    go_wp2
    go_ret2
    exact ⟨_, by first | rfl | (simp [errW_none, errW_some] <;> rfl) | (simp [*, errW_none, errW_some] <;> rfl), by first | exact Kd.R_nil _ _ _ _ _ | exact Kd.N_nil _ _ _ _ _ | exact Kd.V_nil _ _ _ _ _ | exact Kd.Q_nil _ _ _ _ _ | exact Kd.S_nil _ _ _ _ _, bl HB.out⟩
   ·replace c7 := Bool.eq_false_iff.mpr c7
    subst c7
    have H1 : ((spec_l15Codes.f kj2 l0).bind fun t119 => (spec_DecodeBits.l0 kj2 a1 t119 ([] : List Int))) = some (r1, r2) := by rw [if_neg (show ¬ (false = true) by decide)] at H; exact H
    clear H
    have H := H1
    clear H1
    replace H := Option.bind_eq_some_iff.mp H
    obtain ⟨t119, A80, H⟩ := H
    try dsimp only at H
    have A8 := Aside0.mk A80
    clear A80
    have H' := Aside0.mk H
    clear H
    go_wp2_with (first | ((with_reducible refine gate_callee (f := 23) rfl ?_); refine goesL_ (some 20) rfl rfl Tryd.func23 (by kernel_rfl) rfl #[.slice A0 l0.length c0] rfl (by (try simp only [List.map_toArray, List.map_cons, List.map_nil]); first | done | rfl | (simp only [List.length_drop, List.length_take]; rfl)) ?_; (with_reducible refine (spec_l15Codes.calls kj2 _ _ l0 t119 _ ?side1 ?side2 A8.out).mono ?_); (case side1 => exact kc (Kd.C_below HR0.out HB.out)); (case side2 => exact HC0.out); rintro e w9 ⟨v120, rfl, ho0, hb⟩; refine ⟨_, rfl, ?_⟩; have n0_ := Aside0.mk (Kd.R_lower ho0 (below_size (bl HB.out))); have n1_ := Aside0.mk (below_step (bl HB.out) hb); clear HB; have HO121 := n0_; have HB := n1_; clear n0_ n1_; (try clear hb); (try clear hb2); (try clear hk); (try clear hi); (try clear ho0)))
    go_loopg [1, 7] kj2 (fun kq v1 v7 w' => ∃ (x1_2 : ByteArray) (x7_2 : List Int), v1 = .string x1_2 ∧ Aside0 (spec_DecodeBits.l0 kq x1_2 t119 x7_2 = some (r1, r2)) ∧ Aside0 (kq ≤ kj2) ∧ Aside0 (Kd.R Kd.string 9 w' w.heap.size (fun _ => True) v120 t119) ∧ Aside0 (Kd.R (Kd.int .i64) 3 w' w.heap.size (fun _ => True) v7 x7_2) ∧ Aside0 (Below w.heap.size w w'))
    case atStart => exact ⟨(a1), (([] : List Int)), (by first | rfl | (simp; done) | (simp [*]; done)), H', ⟨Nat.le_refl _⟩, ⟨kr HO121.out⟩, ⟨by first | exact Kd.R_nil _ _ _ _ _ | exact Kd.N_nil _ _ _ _ _ | exact Kd.V_nil _ _ _ _ _ | exact Kd.Q_nil _ _ _ _ _ | exact Kd.S_nil _ _ _ _ _⟩, ⟨bl HB.out⟩⟩
    case round =>
     clear H'
     try clear c2
     try clear p2
     try clear c5
     try clear c6
     try clear c7
     try clear p2
     obtain ⟨x1_2, x7_2, rfl, HA, HK2, HO_6, HO_7, HB⟩ := hrel
     cases gk with
     | zero => exact absurd HA.out (by simp [spec_DecodeBits.l0])
     | succ k2 =>
      have H := HA.out
      clear HA
      simp only [spec_DecodeBits.l0] at H
      by_cases c10 : x1_2.toList = ([] : List UInt8)
      ·rw [if_pos c10] at H
       have c10b0 : (x1_2.toList == ([] : List UInt8)) = true := beq_iff_eq.mpr c10
       have c10b1 : (x1_2.toList != ([] : List UInt8)) = false := bne_eq_false_iff_eq.mpr c10
       clear c10
       simp only [Option.some.injEq, Prod.mk.injEq] at H
       obtain ⟨rfl, rfl⟩ := H
       go_wp2
       go_ret2
       exact ⟨_, by first | rfl | (simp [errW_none, errW_some] <;> rfl) | (simp [*, errW_none, errW_some] <;> rfl), kr HO_7.out, bl HB.out⟩
      ·rw [if_neg c10] at H
       have c10b0 : (x1_2.toList == ([] : List UInt8)) = false := beq_eq_false_iff_ne.mpr c10
       have c10b1 : (x1_2.toList != ([] : List UInt8)) = true := bne_iff_ne.mpr c10
       have H' := Aside0.mk H
       clear H
       obtain ⟨Ao11, co11, eo11⟩ := Kd.R_slice HO_6.out
       subst eo11
       go_wp2
       go_loopg [8, 25] k2 (fun kq v8 v25 w' => ∃ (x8_3 : Int) (x25_3 : Int), v8 = .int .i64 x8_3 ∧ v25 = .int .i64 x25_3 ∧ Aside0 (spec_DecodeBits.l1 kq x1_2 t119 x7_2 x8_3 t119 (t119.length : Int) x25_3 = some (r1, r2)) ∧ Aside0 (kq ≤ k2) ∧ Aside0 (Kd.R Kd.string 9 w' w.heap.size (fun _ => True) (.slice Ao11 t119.length co11) t119) ∧ Aside0 (Kd.R (Kd.int .i64) 3 w' w.heap.size (fun _ => True) u7 x7_2) ∧ Aside0 (Kd.R Kd.string 9 w' w.heap.size (fun _ => True) (.slice Ao11 t119.length co11) t119) ∧ Aside0 (Below w.heap.size w w'))
       case atStart => exact ⟨((-1)), (0), (by first | rfl | (simp; done) | (simp [*]; done)), (by first | rfl | (simp; done) | (simp [*]; done)), H', ⟨Nat.le_refl _⟩, ⟨kr HO_6.out⟩, ⟨kr HO_7.out⟩, ⟨kr HO_6.out⟩, ⟨bl HB.out⟩⟩
       case round =>
        clear H'
        try clear c1
        try clear c2
        try clear p2
        try clear c5
        try clear c6
        try clear c7
        try clear c10
        try clear c10b0
        try clear c10b1
        try clear p2
        obtain ⟨x8_3, x25_3, rfl, rfl, HA, HK3, HO_6, HO_7, HO_23, HB⟩ := hrel
        cases gk with
        | zero => exact absurd HA.out (by simp [spec_DecodeBits.l1])
        | succ k3 =>
         have H := HA.out
         clear HA
         simp only [spec_DecodeBits.l1] at H
         by_cases c12 : x25_3 < (t119.length : Int)
         ·rw [if_pos c12] at H
          have c12b0 : decide (x25_3 < (t119.length : Int)) = true := decide_eq_true c12
          clear c12
          by_cases c13 : 0 ≤ x25_3
          ·rw [if_pos c13] at H
           have c13b0 : decide (0 ≤ x25_3) = true := decide_eq_true c13
           clear c13
           by_cases c14 : x25_3 < (t119.length : Int)
           ·rw [if_pos c14] at H
            have c14b0 : decide (x25_3 < (t119.length : Int)) = true := decide_eq_true c14
            clear c14
            by_cases c15 : (rdOf ByteArray.empty t119 x25_3).toList = ([] : List UInt8)
            ·rw [if_pos c15] at H
             have c15b0 : ((rdOf ByteArray.empty t119 x25_3).toList == ([] : List UInt8)) = true := beq_iff_eq.mpr c15
             have c15b1 : ((rdOf ByteArray.empty t119 x25_3).toList != ([] : List UInt8)) = false := bne_eq_false_iff_eq.mpr c15
             clear c15
             have H' := Aside0.mk H
             clear H
             have p122 : 0 ≤ (x25_3 : Int) := of_decide_eq_true (by first | (with_reducible assumption) | assumption)
             have q122 : x25_3 < (t119.length : Int) := of_decide_eq_true (by first | (with_reducible assumption) | assumption)
             obtain ⟨ad122, e122, hx122_0⟩ := Kd.at_string (Kd.R_reads' HO_23.out).2.2 x25_3 p122 q122
             cases e122
             replace p122 := eq_true p122
             replace q122 := eq_true q122
             go_wp2
             go_roundg k3
             case measure => have := HJ2.out; have := HK2.out; have := HK3.out; omega
             case rel => exact ⟨(x8_3), (wrap64 (x25_3 + 1)), (by first | rfl | (simp; done) | (simp [*]; done)), (by first | rfl | (simp; done) | (simp [*]; done)), H', ⟨by have := HJ2.out; have := HK2.out; have := HK3.out; omega⟩, ⟨kr HO_6.out⟩, ⟨kr HO_7.out⟩, ⟨kr HO_23.out⟩, ⟨bl HB.out⟩⟩
            ·rw [if_neg c15] at H
             have c15b0 : ((rdOf ByteArray.empty t119 x25_3).toList == ([] : List UInt8)) = false := beq_eq_false_iff_ne.mpr c15
             have c15b1 : ((rdOf ByteArray.empty t119 x25_3).toList != ([] : List UInt8)) = true := bne_iff_ne.mpr c15
             by_cases c16 : ((rdOf ByteArray.empty t119 x25_3).size : Int) ≤ (x1_2.size : Int)
             ·rw [if_pos c16] at H
              have c16b0 : decide (((rdOf ByteArray.empty t119 x25_3).size : Int) ≤ (x1_2.size : Int)) = true := decide_eq_true c16
              have c16b1 : decide ((rdOf ByteArray.empty t119 x25_3).size ≤ x1_2.size) = true := decide_eq_true (Int.ofNat_le.mp c16)
              clear c16
              by_cases c17 : 0 ≤ ((rdOf ByteArray.empty t119 x25_3).size : Int)
              ·rw [if_pos c17] at H
               have c17b0 := eq_true c17
               have c17b1 : decide (0 ≤ ((rdOf ByteArray.empty t119 x25_3).size : Int)) = true := decide_eq_true c17
               clear c17
               have c18b0 := eq_true (of_decide_eq_true (by first | (with_reducible assumption) | assumption) : ((rdOf ByteArray.empty t119 x25_3).size : Int) ≤ (x1_2.size : Int))
               by_cases c19 : (x1_2.extract 0 (((rdOf ByteArray.empty t119 x25_3).size : Int) : Int).toNat).toList = (rdOf ByteArray.empty t119 x25_3).toList
               ·rw [if_pos c19] at H
                have c19b0 : ((x1_2.extract 0 (((rdOf ByteArray.empty t119 x25_3).size : Int) : Int).toNat).toList == (rdOf ByteArray.empty t119 x25_3).toList) = true := beq_iff_eq.mpr c19
                have c19b1 : ((x1_2.extract 0 (((rdOf ByteArray.empty t119 x25_3).size : Int) : Int).toNat).toList != (rdOf ByteArray.empty t119 x25_3).toList) = false := bne_eq_false_iff_eq.mpr c19
                clear c19
                (try (have c19s0 := c19b0; simp only [Int.toNat_natCast] at c19s0))
                (try (have c19s1 := c19b1; simp only [Int.toNat_natCast] at c19s1))
                by_cases c20 : x25_3 < 0
                ·rw [if_pos c20] at H
                 have c20b0 : decide (x25_3 < 0) = true := decide_eq_true c20
                 clear c20
                 simp only [Option.some.injEq, Prod.mk.injEq] at H
                 obtain ⟨rfl, rfl⟩ := H
                 have p122 : 0 ≤ (x25_3 : Int) := of_decide_eq_true (by first | (with_reducible assumption) | assumption)
                 have q122 : x25_3 < (t119.length : Int) := of_decide_eq_true (by first | (with_reducible assumption) | assumption)
                 obtain ⟨ad122, e122, hx122_0⟩ := Kd.at_string (Kd.R_reads' HO_23.out).2.2 x25_3 p122 q122
                 cases e122
                 replace p122 := eq_true p122
                 replace q122 := eq_true q122
                 go_wp2
                 go_ret2
                 exact ⟨_, by first | rfl | (simp [errW_none, errW_some] <;> rfl) | (simp [*, errW_none, errW_some] <;> rfl), by first | exact Kd.R_nil _ _ _ _ _ | exact Kd.N_nil _ _ _ _ _ | exact Kd.V_nil _ _ _ _ _ | exact Kd.Q_nil _ _ _ _ _ | exact Kd.S_nil _ _ _ _ _, bl HB.out⟩
                ·rw [if_neg c20] at H
                 have c20b0 : decide (x25_3 < 0) = false := decide_eq_false c20
                 clear c20
                 by_cases c21 : (x7_2.length : Int) = 200
                 ·rw [if_pos c21] at H
                  have c21b0 : ((x7_2.length : Int) == 200) = true := beq_iff_eq.mpr c21
                  have c21b1 : ((x7_2.length : Int) != 200) = false := bne_eq_false_iff_eq.mpr c21
                  clear c21
                  simp only [Option.some.injEq, Prod.mk.injEq] at H
                  obtain ⟨rfl, rfl⟩ := H
                  have p122 : 0 ≤ (x25_3 : Int) := of_decide_eq_true (by first | (with_reducible assumption) | assumption)
                  have q122 : x25_3 < (t119.length : Int) := of_decide_eq_true (by first | (with_reducible assumption) | assumption)
                  obtain ⟨ad122, e122, hx122_0⟩ := Kd.at_string (Kd.R_reads' HO_23.out).2.2 x25_3 p122 q122
                  cases e122
                  replace p122 := eq_true p122
                  replace q122 := eq_true q122
                  obtain ⟨Ao22, co22, eo22⟩ := Kd.R_slice HO_7.out
                  subst eo22
                  go_wp2
                  go_ret2
                  exact ⟨_, by first | rfl | (simp [errW_none, errW_some] <;> rfl) | (simp [*, errW_none, errW_some] <;> rfl), by first | exact Kd.R_nil _ _ _ _ _ | exact Kd.N_nil _ _ _ _ _ | exact Kd.V_nil _ _ _ _ _ | exact Kd.Q_nil _ _ _ _ _ | exact Kd.S_nil _ _ _ _ _, bl HB.out⟩
                 ·rw [if_neg c21] at H
                  have c21b0 : ((x7_2.length : Int) == 200) = false := beq_eq_false_iff_ne.mpr c21
                  have c21b1 : ((x7_2.length : Int) != 200) = true := bne_iff_ne.mpr c21
                  by_cases c23 : x7_2.length < 17592186044416
                  ·rw [if_pos c23] at H
                   have LMc23 := Aside0.mk c23
                   clear c23
                   obtain ⟨y123, hy123⟩ : ∃ y_ : List Int, y_ = (x7_2 ++ [x25_3]) := ⟨_, rfl⟩
                   replace H : (if x25_3 < (t119.length : Int) then (if 0 ≤ ((rdOf ByteArray.empty t119 x25_3).size : Int) then (if ((rdOf ByteArray.empty t119 x25_3).size : Int) ≤ (x1_2.size : Int) then (spec_DecodeBits.l0 k3 (x1_2.extract (((rdOf ByteArray.empty t119 x25_3).size : Int) : Int).toNat x1_2.size) t119 y123) else (none)) else (none)) else (none)) = some (r1, r2) := by first | (rw [hy123]; with_reducible exact H) | (have H2_ := (Option.bind_some _ _).symm.trans H; rw [hy123]; with_reducible exact H2_) | (have H2_ := (Option.bind_some _ _).symm.trans H; with_reducible exact H2_) | with_reducible exact H | (rw [hy123]; exact H) | exact H
                   have Ny123 := Aside0.mk hy123
                   clear hy123
                   by_cases c24 : x25_3 < (t119.length : Int)
                   ·rw [if_pos c24] at H
                    have c24b0 : decide (x25_3 < (t119.length : Int)) = true := decide_eq_true c24
                    clear c24
                    by_cases c25 : 0 ≤ ((rdOf ByteArray.empty t119 x25_3).size : Int)
                    ·rw [if_pos c25] at H
                     have c25b0 := eq_true c25
                     have c25b1 : decide (0 ≤ ((rdOf ByteArray.empty t119 x25_3).size : Int)) = true := decide_eq_true c25
                     clear c25
                     by_cases c26 : ((rdOf ByteArray.empty t119 x25_3).size : Int) ≤ (x1_2.size : Int)
                     ·rw [if_pos c26] at H
                      have c26b0 := eq_true c26
                      have c26b1 : decide (((rdOf ByteArray.empty t119 x25_3).size : Int) ≤ (x1_2.size : Int)) = true := decide_eq_true c26
                      clear c26
                      have H' := Aside0.mk H
                      clear H
                      have p122 : 0 ≤ (x25_3 : Int) := of_decide_eq_true (by first | (with_reducible assumption) | assumption)
                      have q122 : x25_3 < (t119.length : Int) := of_decide_eq_true (by first | (with_reducible assumption) | assumption)
                      obtain ⟨ad122, e122, hx122_0⟩ := Kd.at_string (Kd.R_reads' HO_23.out).2.2 x25_3 p122 q122
                      cases e122
                      replace p122 := eq_true p122
                      replace q122 := eq_true q122
                      obtain ⟨Ao27, co27, eo27⟩ := Kd.R_slice HO_7.out
                      subst eo27
                      go_wp2_with (first | ((with_reducible refine gate_builtin (b := .append) (xs := #[.tmp 56, .tmp 58]) rfl ?_); (try (refine gate_guard (by rfl) ?_; dsimp only)); at_builtin; refine Kd.R_append (Kd.int .i64) (w0 := w) w.heap.size rfl (.tmp 56) (.tmp 58) 22 3 (.int .i64 0) 8 rfl Tryd.underlying22 info3 rfl (by decide) (by omega) (.slice Ao27 x7_2.length co27) x7_2 x25_3 [.int .i64 x25_3] (fun _ => True) (fun _ => False) rfl rfl ?aP (fun _ hk => hk.elim) ?aF ?aO ?aB ?aS ?aL ?_; (case aP => exact rfl); (case aB => exact (bl HB.out)); (case aF => exact (fun _ _ => trivial)); (case aO => exact (kr HO_7.out)); (case aS => exact (below_size (bl HB.out))); (case aL => have := LMc23.out; omega); intro v124 w28 ho hb hg hat; rw [← Ny123.out] at ho; have n0_ := Aside0.mk (Kd.R_over' (kr HO_6.out) (Kd.R_typed (kr HO_7.out)) (by decide) hg); have n1_ := Aside0.mk (Kd.R_over' (kr HO_23.out) (Kd.R_typed (kr HO_7.out)) (by decide) hg); have n2_ := Aside0.mk (hb); have n3_ := Aside0.mk (ho); clear HO_6; clear HO_23; clear HB; clear HO_7; have HO_6 := n0_; have HO_23 := n1_; have HB := n2_; have HO125 := n3_; clear n0_ n1_ n2_ n3_; clear ho hb hg hat; have p126 : 0 ≤ (x25_3 : Int) := of_decide_eq_true (by first | (with_reducible assumption) | assumption); have q126 : x25_3 < (t119.length : Int) := of_decide_eq_true (by first | (with_reducible assumption) | assumption); obtain ⟨ad126, e126, hx126_0⟩ := Kd.at_string (Kd.R_reads' HO_6.out).2.2 x25_3 p126 q126; obtain rfl : ad122 = ad126 := (by injection e126); replace p126 := eq_true p126; replace q126 := eq_true q126))
                      go_roundg k3
                      case measure => have := HJ2.out; have := HK2.out; have := HK3.out; omega
                      case rel => exact ⟨(x1_2.extract (((rdOf ByteArray.empty t119 x25_3).size : Int) : Int).toNat x1_2.size), (y123), (by first | rfl | (simp; done) | (simp [*]; done)), H', ⟨by have := HJ2.out; have := HK2.out; have := HK3.out; omega⟩, ⟨kr HO_6.out⟩, ⟨kr HO125.out⟩, ⟨bl HB.out⟩⟩
                     ·rw [if_neg c26] at H
                      exact absurd H (by simp)
                    ·rw [if_neg c25] at H
                     exact absurd H (by simp)
                   ·rw [if_neg c24] at H
                    exact absurd H (by simp)
                  ·rw [if_neg c23] at H
                   exact absurd H (by simp)
               ·rw [if_neg c19] at H
                have c19b0 : ((x1_2.extract 0 (((rdOf ByteArray.empty t119 x25_3).size : Int) : Int).toNat).toList == (rdOf ByteArray.empty t119 x25_3).toList) = false := beq_eq_false_iff_ne.mpr c19
                have c19b1 : ((x1_2.extract 0 (((rdOf ByteArray.empty t119 x25_3).size : Int) : Int).toNat).toList != (rdOf ByteArray.empty t119 x25_3).toList) = true := bne_iff_ne.mpr c19
                (try (have c19s0 := c19b0; simp only [Int.toNat_natCast] at c19s0))
                (try (have c19s1 := c19b1; simp only [Int.toNat_natCast] at c19s1))
                have H' := Aside0.mk H
                clear H
                have p122 : 0 ≤ (x25_3 : Int) := of_decide_eq_true (by first | (with_reducible assumption) | assumption)
                have q122 : x25_3 < (t119.length : Int) := of_decide_eq_true (by first | (with_reducible assumption) | assumption)
                obtain ⟨ad122, e122, hx122_0⟩ := Kd.at_string (Kd.R_reads' HO_23.out).2.2 x25_3 p122 q122
                cases e122
                replace p122 := eq_true p122
                replace q122 := eq_true q122
                go_wp2
                go_roundg k3
                case measure => have := HJ2.out; have := HK2.out; have := HK3.out; omega
                case rel => exact ⟨(x8_3), (wrap64 (x25_3 + 1)), (by first | rfl | (simp; done) | (simp [*]; done)), (by first | rfl | (simp; done) | (simp [*]; done)), H', ⟨by have := HJ2.out; have := HK2.out; have := HK3.out; omega⟩, ⟨kr HO_6.out⟩, ⟨kr HO_7.out⟩, ⟨kr HO_23.out⟩, ⟨bl HB.out⟩⟩
              ·rw [if_neg c17] at H
               exact absurd H (by simp)
             ·rw [if_neg c16] at H
              have c16b0 : decide (((rdOf ByteArray.empty t119 x25_3).size : Int) ≤ (x1_2.size : Int)) = false := decide_eq_false c16
              have c16b1 : decide ((rdOf ByteArray.empty t119 x25_3).size ≤ x1_2.size) = false := decide_eq_false (fun h => c16 (Int.ofNat_le.mpr h))
              clear c16
              have H' := Aside0.mk H
              clear H
              have p122 : 0 ≤ (x25_3 : Int) := of_decide_eq_true (by first | (with_reducible assumption) | assumption)
              have q122 : x25_3 < (t119.length : Int) := of_decide_eq_true (by first | (with_reducible assumption) | assumption)
              obtain ⟨ad122, e122, hx122_0⟩ := Kd.at_string (Kd.R_reads' HO_23.out).2.2 x25_3 p122 q122
              cases e122
              replace p122 := eq_true p122
              replace q122 := eq_true q122
              go_wp2
              go_roundg k3
              case measure => have := HJ2.out; have := HK2.out; have := HK3.out; omega
              case rel => exact ⟨(x8_3), (wrap64 (x25_3 + 1)), (by first | rfl | (simp; done) | (simp [*]; done)), (by first | rfl | (simp; done) | (simp [*]; done)), H', ⟨by have := HJ2.out; have := HK2.out; have := HK3.out; omega⟩, ⟨kr HO_6.out⟩, ⟨kr HO_7.out⟩, ⟨kr HO_23.out⟩, ⟨bl HB.out⟩⟩
           ·rw [if_neg c14] at H
            exact absurd H (by simp)
          ·rw [if_neg c13] at H
           exact absurd H (by simp)
         ·rw [if_neg c12] at H
          have c12b0 : decide (x25_3 < (t119.length : Int)) = false := decide_eq_false c12
          clear c12
          by_cases c29 : x8_3 < 0
          ·rw [if_pos c29] at H
           have c29b0 : decide (x8_3 < 0) = true := decide_eq_true c29
           clear c29
           simp only [Option.some.injEq, Prod.mk.injEq] at H
           obtain ⟨rfl, rfl⟩ := H
           go_wp2
           go_ret2
           exact ⟨_, by first | rfl | (simp [errW_none, errW_some] <;> rfl) | (simp [*, errW_none, errW_some] <;> rfl), by first | exact Kd.R_nil _ _ _ _ _ | exact Kd.N_nil _ _ _ _ _ | exact Kd.V_nil _ _ _ _ _ | exact Kd.Q_nil _ _ _ _ _ | exact Kd.S_nil _ _ _ _ _, bl HB.out⟩
          ·rw [if_neg c29] at H
           have c29b0 : decide (x8_3 < 0) = false := decide_eq_false c29
           clear c29
           by_cases c30 : (x7_2.length : Int) = 200
           ·rw [if_pos c30] at H
            have c30b0 : ((x7_2.length : Int) == 200) = true := beq_iff_eq.mpr c30
            have c30b1 : ((x7_2.length : Int) != 200) = false := bne_eq_false_iff_eq.mpr c30
            clear c30
            simp only [Option.some.injEq, Prod.mk.injEq] at H
            obtain ⟨rfl, rfl⟩ := H
            obtain ⟨Ao31, co31, eo31⟩ := Kd.R_slice HO_7.out
            subst eo31
            go_wp2
            go_ret2
            exact ⟨_, by first | rfl | (simp [errW_none, errW_some] <;> rfl) | (simp [*, errW_none, errW_some] <;> rfl), by first | exact Kd.R_nil _ _ _ _ _ | exact Kd.N_nil _ _ _ _ _ | exact Kd.V_nil _ _ _ _ _ | exact Kd.Q_nil _ _ _ _ _ | exact Kd.S_nil _ _ _ _ _, bl HB.out⟩
           ·rw [if_neg c30] at H
            have c30b0 : ((x7_2.length : Int) == 200) = false := beq_eq_false_iff_ne.mpr c30
            have c30b1 : ((x7_2.length : Int) != 200) = true := bne_iff_ne.mpr c30
            by_cases c32 : x7_2.length < 17592186044416
            ·rw [if_pos c32] at H
             have LMc32 := Aside0.mk c32
             clear c32
             obtain ⟨y127, hy127⟩ : ∃ y_ : List Int, y_ = (x7_2 ++ [x8_3]) := ⟨_, rfl⟩
             replace H : (if 0 ≤ x8_3 then (if x8_3 < (t119.length : Int) then (if 0 ≤ ((rdOf ByteArray.empty t119 x8_3).size : Int) then (if ((rdOf ByteArray.empty t119 x8_3).size : Int) ≤ (x1_2.size : Int) then (spec_DecodeBits.l0 k3 (x1_2.extract (((rdOf ByteArray.empty t119 x8_3).size : Int) : Int).toNat x1_2.size) t119 y127) else (none)) else (none)) else (none)) else (none)) = some (r1, r2) := by first | (rw [hy127]; with_reducible exact H) | (have H2_ := (Option.bind_some _ _).symm.trans H; rw [hy127]; with_reducible exact H2_) | (have H2_ := (Option.bind_some _ _).symm.trans H; with_reducible exact H2_) | with_reducible exact H | (rw [hy127]; exact H) | exact H
             have Ny127 := Aside0.mk hy127
             clear hy127
             by_cases c33 : 0 ≤ x8_3
             ·rw [if_pos c33] at H
              have c33b0 : decide (0 ≤ x8_3) = true := decide_eq_true c33
              clear c33
              by_cases c34 : x8_3 < (t119.length : Int)
              ·rw [if_pos c34] at H
               have c34b0 : decide (x8_3 < (t119.length : Int)) = true := decide_eq_true c34
               clear c34
               by_cases c35 : 0 ≤ ((rdOf ByteArray.empty t119 x8_3).size : Int)
               ·rw [if_pos c35] at H
                have c35b0 := eq_true c35
                have c35b1 : decide (0 ≤ ((rdOf ByteArray.empty t119 x8_3).size : Int)) = true := decide_eq_true c35
                clear c35
                by_cases c36 : ((rdOf ByteArray.empty t119 x8_3).size : Int) ≤ (x1_2.size : Int)
                ·rw [if_pos c36] at H
                 have c36b0 := eq_true c36
                 have c36b1 : decide (((rdOf ByteArray.empty t119 x8_3).size : Int) ≤ (x1_2.size : Int)) = true := decide_eq_true c36
                 clear c36
                 have H' := Aside0.mk H
                 clear H
                 obtain ⟨Ao37, co37, eo37⟩ := Kd.R_slice HO_7.out
                 subst eo37
                 go_wp2_with (first | ((with_reducible refine gate_builtin (b := .append) (xs := #[.tmp 56, .tmp 58]) rfl ?_); (try (refine gate_guard (by rfl) ?_; dsimp only)); at_builtin; refine Kd.R_append (Kd.int .i64) (w0 := w) w.heap.size rfl (.tmp 56) (.tmp 58) 22 3 (.int .i64 0) 8 rfl Tryd.underlying22 info3 rfl (by decide) (by omega) (.slice Ao37 x7_2.length co37) x7_2 x8_3 [.int .i64 x8_3] (fun _ => True) (fun _ => False) rfl rfl ?aP (fun _ hk => hk.elim) ?aF ?aO ?aB ?aS ?aL ?_; (case aP => exact rfl); (case aB => exact (bl HB.out)); (case aF => exact (fun _ _ => trivial)); (case aO => exact (kr HO_7.out)); (case aS => exact (below_size (bl HB.out))); (case aL => have := LMc32.out; omega); intro v128 w38 ho hb hg hat; rw [← Ny127.out] at ho; have n0_ := Aside0.mk (Kd.R_over' (kr HO_6.out) (Kd.R_typed (kr HO_7.out)) (by decide) hg); have n1_ := Aside0.mk (Kd.R_over' (kr HO_23.out) (Kd.R_typed (kr HO_7.out)) (by decide) hg); have n2_ := Aside0.mk (hb); have n3_ := Aside0.mk (ho); clear HO_6; clear HO_23; clear HB; clear HO_7; have HO_6 := n0_; have HO_23 := n1_; have HB := n2_; have HO129 := n3_; clear n0_ n1_ n2_ n3_; clear ho hb hg hat; have p130 : 0 ≤ (x8_3 : Int) := of_decide_eq_true (by first | (with_reducible assumption) | assumption); have q130 : x8_3 < (t119.length : Int) := of_decide_eq_true (by first | (with_reducible assumption) | assumption); obtain ⟨ad130, e130, hx130_0⟩ := Kd.at_string (Kd.R_reads' HO_6.out).2.2 x8_3 p130 q130; cases e130; replace p130 := eq_true p130; replace q130 := eq_true q130))
                 go_roundg k3
                 case measure => have := HJ2.out; have := HK2.out; have := HK3.out; omega
                 case rel => exact ⟨(x1_2.extract (((rdOf ByteArray.empty t119 x8_3).size : Int) : Int).toNat x1_2.size), (y127), (by first | rfl | (simp; done) | (simp [*]; done)), H', ⟨by have := HJ2.out; have := HK2.out; have := HK3.out; omega⟩, ⟨kr HO_6.out⟩, ⟨kr HO129.out⟩, ⟨bl HB.out⟩⟩
                ·rw [if_neg c36] at H
                 exact absurd H (by simp)
               ·rw [if_neg c35] at H
                exact absurd H (by simp)
              ·rw [if_neg c34] at H
               exact absurd H (by simp)
             ·rw [if_neg c33] at H
              exact absurd H (by simp)
            ·rw [if_neg c32] at H
             exact absurd H (by simp)

/-! ### impl_within: function 34 -/
def impl_within.f (a0 : Int) (a1 : Int) (a2 : Int) : Option (Bool) := if a1 ≤ a0 then (some (decide (a0 ≤ a2))) else (some false)
set_option maxHeartbeats 8000000 in
set_option maxRecDepth 100000 in
theorem impl_within.calls (a0 : Int) (a1 : Int) (a2 : Int) (r : Bool) (w : World) (h : impl_within.f a0 a1 a2 = some r) :
  Calls Tryd.prog 34 #[.int .i64 a0, .int .i64 a1, .int .i64 a2] w fun e w' => e = .returned (.bool r) ∧ Drawn0 w w' := by
 have H : (if a1 ≤ a0 then (some (decide (a0 ≤ a2))) else (some false)) = some r := h
 clear h
 by_cases c4 : a1 ≤ a0
 ·rw [if_pos c4] at H
  have c4b0 : decide (a1 ≤ a0) = true := decide_eq_true c4
  clear c4
  obtain rfl := Option.some.inj H
  go_enter Tryd.func34, Tryd.ntmps34
  go_wp2
  go_ret
  exact ⟨by first | rfl | (simp; done) | (simp [*]; done), by repeat (first | exact Drawn0.refl _ | apply Drawn0.step)⟩
 ·rw [if_neg c4] at H
  have c4b0 : decide (a1 ≤ a0) = false := decide_eq_false c4
  clear c4
  obtain rfl := Option.some.inj H
  go_enter Tryd.func34, Tryd.ntmps34
  go_wp2
  go_ret
  exact ⟨by first | rfl | (simp; done) | (simp [*]; done), by repeat (first | exact Drawn0.refl _ | apply Drawn0.step)⟩

-- NOT PRINTED: function 84 (slices_IndexFunc_int_int)

-- NOT PRINTED: function 73 (slices_ContainsFunc_int_int)

-- NOT PRINTED: function 74 (impl_areAll_int_1)

-- NOT PRINTED: function 58 (impl_areAll_int)

/-! ### impl_areLengths_1: function 59 -/
def impl_areLengths_1.f (a0 : Int) : Option (Bool) := (impl_within.f a0 0 23).bind fun t131 => (some t131)
set_option maxHeartbeats 8000000 in
set_option maxRecDepth 100000 in
theorem impl_areLengths_1.calls (a0 : Int) (r : Bool) (w : World) (h : impl_areLengths_1.f a0 = some r) :
  Calls Tryd.prog 59 #[.int .i64 a0] w fun e w' => e = .returned (.bool r) ∧ Drawn0 w w' := by
 have H : ((impl_within.f a0 0 23).bind fun t131 => (some t131)) = some r := h
 clear h
 replace H := Option.bind_eq_some_iff.mp H
 obtain ⟨t131, A20, H⟩ := H
 try dsimp only at H
 have A2 := Aside0.mk A20
 clear A20
 obtain rfl := Option.some.inj H
 go_enter Tryd.func59, Tryd.ntmps59
 go_wp2_with (first | ((with_reducible refine gate_callee (f := 34) rfl ?_); refine goesL_ (some 4) rfl rfl Tryd.func34 (by kernel_rfl) rfl #[.int .i64 a0, .int .i64 0, .int .i64 23] rfl (by (try simp only [List.map_toArray, List.map_cons, List.map_nil]); first | done | rfl | (simp only [List.length_drop, List.length_take]; rfl)) ?_; (with_reducible refine (impl_within.calls a0 0 23 t131 _ A2.out).mono ?_); rintro e w' ⟨rfl, ⟨nd, rfl⟩⟩; refine ⟨_, rfl, ?_⟩))
 go_ret
 exact ⟨by first | rfl | (simp; done) | (simp [*]; done), by repeat (first | exact Drawn0.refl _ | apply Drawn0.step)⟩

/-! ### areAll, function 58, at any predicate -/
set_option maxHeartbeats 800000 in
theorem areAll_g58.neg (h : Nat) (p : Int → Option Bool) (hp : PredOk Tryd.prog h (Value.int .i64) p) (eg : ∀ args w, (callFunc h args).run Tryd.prog w = .ok (.enter h args) w)
  (x : Int) (r : Bool) (b : Nat) (w : World) (hc : w.cell? ⟨b, 0, none⟩ = some (.func (.func h) #[] #[])) (hx : p x = some r) :
  Calls Tryd.prog 74 #[.int .i64 x, .pointer (some ⟨b, 0, none⟩)] w fun e w' => e = .returned (.bool (!r)) ∧ Below w.heap.size w w' := by
 have hh := hp x r
 clear hp
 go_enter Tryd.func74, Tryd.ntmps74
 go_wp2_with (go_at_fn h; refine (hh _ hx).mono ?_; rintro e w' ⟨rfl, hb⟩)
 go_ret
 exact ⟨rfl, hb⟩
set_option maxHeartbeats 800000 in
theorem areAll_g58.idx (h : Nat) (p : Int → Option Bool) (hp : PredOk Tryd.prog h (Value.int .i64) p) (eg : ∀ args w, (callFunc h args).run Tryd.prog w = .ok (.enter h args) w)
  (eg90 : ∀ args w, (callFunc 74 args).run Tryd.prog w = .ok (.enter 74 args) w)
  (A : Option Addr) (c : Nat) (l : List Int) (r : Int) (b : Nat) (w : World) (hr : Kd.C (Kd.int .i64) w A l.length l) (hb : b < w.heap.size) (hcb : w.cell? ⟨b, 0, none⟩ = some (.func (.func h) #[] #[])) (hx : idxO p l 0 = some r) :
  Calls Tryd.prog 84 #[.slice A l.length c, .func (.func 74) #[] #[.pointer (some ⟨b, 0, none⟩)]] w fun e w' => e = .returned (.int .i64 r) ∧ Below w.heap.size w w' := by
 have hm := Kd.C_max hr
 have HX := Aside0.mk hx
 have HP := Aside0.mk hp
 have HR := Aside0.mk hr
 have HC := Aside0.mk hcb
 have EG := Aside0.mk eg
 clear hx hp hr hcb eg
 go_enter Tryd.func84, Tryd.ntmps84
 go_wp2
 go_loopg [5, 8] l.length (fun gg _ s8 wr => ∃ j : Nat, j ≤ l.length ∧ l.length - j ≤ gg ∧ s8 = .int .i64 j ∧ Aside0 (Below w.heap.size w wr) ∧ Aside0 (idxO p (l.drop j) j = some r))
 case atStart => exact ⟨0, Nat.zero_le _, by omega, rfl, ⟨Below.refl _ w⟩, ⟨HX.out⟩⟩
 case round =>
  obtain ⟨j, hj, hg, rfl, BW, HA⟩ := hrel
  by_cases hlt : j < l.length
  ·have hlt' : (j : Int) < (l.length : Int) := by omega
   have h0 : (0 : Int) ≤ (j : Int) := by omega
   obtain ⟨bo, hbo, hy, hn⟩ := idxO_step p l 0 j hlt r HA.out
   obtain ⟨ad, ea, hcell⟩ := Kd.at_int (Kd.C_below HR.out BW.out) (j : Int) h0 hlt'
   cases ea
   have hcell2 : wr.cell? (ad.add j) = some (.int .i64 (l.getD j 0)) := hcell
   clear hcell
   have hc2 := (BW.out.cell (p := ⟨b, 0, none⟩) hb).trans HC.out
   have hbw : w.heap.size ≤ wr.heap.size := BW.out.size
   generalize l.getD j 0 = y at hbo hcell2
   have hcall := areAll_g58.neg h p HP.out EG.out y bo b wr hc2 hbo
   have HY := Aside0.mk hy
   have HN := Aside0.mk hn
   have HC2 := Aside0.mk hcall
   clear hy hn hbo hcall hc2
   cases bo with
   | true =>
    go_wp2_with (go_at_fn 74; refine HC2.out.mono ?_; rintro e w' ⟨rfl, hb'⟩)
    go_roundg (l.length - (j + 1))
    case measure => omega
    case rel => exact ⟨j + 1, by omega, by omega, by go_num, ⟨below_then BW.out hbw hb'⟩, ⟨HY.out (by simp)⟩⟩
   | false =>
    go_wp2_with (go_at_fn 74; refine HC2.out.mono ?_; rintro e w' ⟨rfl, hb'⟩)
    go_ret
    exact ⟨congrArg (fun z => Ending.returned (.int .i64 z)) (HN.out (by simp)).symm, below_then BW.out hbw hb'⟩
  ·have hlt' : ¬ (j : Int) < (l.length : Int) := by omega
   have : j = l.length := by omega
   subst this
   have HA2 := HA.out
   rw [List.drop_length] at HA2
   simp only [idxO, Option.some.injEq] at HA2
   have HA3 := Aside0.mk HA2
   clear HA2
   go_wp2
   go_ret
   exact ⟨congrArg (fun z => Ending.returned (.int .i64 z)) HA3.out, BW.out⟩
set_option maxHeartbeats 800000 in
theorem areAll_g58.has (h : Nat) (p : Int → Option Bool) (hp : PredOk Tryd.prog h (Value.int .i64) p) (eg : ∀ args w, (callFunc h args).run Tryd.prog w = .ok (.enter h args) w)
  (eg90 : ∀ args w, (callFunc 74 args).run Tryd.prog w = .ok (.enter 74 args) w)
  (A : Option Addr) (c : Nat) (l : List Int) (r : Bool) (b : Nat) (w : World) (hr : Kd.C (Kd.int .i64) w A l.length l) (hb : b < w.heap.size) (hcb : w.cell? ⟨b, 0, none⟩ = some (.func (.func h) #[] #[])) (hx : allO p l = some r) :
  Calls Tryd.prog 73 #[.slice A l.length c, .func (.func 74) #[] #[.pointer (some ⟨b, 0, none⟩)]] w fun e w' => e = .returned (.bool (!r)) ∧ Below w.heap.size w w' := by
 obtain ⟨i, hi, h1, h2⟩ := allO_idx p l r hx 0
 have hcall := fun W hr hb hcb => areAll_g58.idx h p hp eg eg90 A c l i b W hr hb hcb hi
 have HC := Aside0.mk hcall
 have HR := Aside0.mk hr
 have HB := Aside0.mk hcb
 have EG := Aside0.mk eg
 clear hcall hr hp hx hi hcb eg
 cases r with
 | true =>
  obtain rfl := h1 rfl
  clear h1 h2
  go_enter Tryd.func73, Tryd.ntmps73
  go_wp2_with (go_at_call 84; refine (HC.out _ HR.out hb HB.out).mono ?_; rintro e w' ⟨rfl, hb'⟩)
  go_ret
  exact ⟨rfl, hb'⟩
 | false =>
  have h3 := h2 rfl
  have h4 : decide (0 ≤ i) = true := decide_eq_true h3
  clear h1 h2
  go_enter Tryd.func73, Tryd.ntmps73
  go_wp2_with (go_at_call 84; refine (HC.out _ HR.out hb HB.out).mono ?_; rintro e w' ⟨rfl, hb'⟩)
  go_ret
  exact ⟨rfl, hb'⟩
set_option maxHeartbeats 800000 in
theorem areAll_g58.all (h : Nat) (p : Int → Option Bool) (hp : PredOk Tryd.prog h (Value.int .i64) p) (eg : ∀ args w, (callFunc h args).run Tryd.prog w = .ok (.enter h args) w)
  (A : Option Addr) (c : Nat) (l : List Int) (r : Bool) (w : World) (hr : Kd.C (Kd.int .i64) w A l.length l) (hx : allO p l = some r) :
  Calls Tryd.prog 58 #[.slice A l.length c, .func (.func h) #[] #[]] w fun e w' => e = .returned (.bool r) ∧ Below w.heap.size w w' := by
 have eg90 : ∀ args w, (callFunc 74 args).run Tryd.prog w = .ok (.enter 74 args) w := enters_of Tryd.func74 (by kernel_rfl) rfl
 have hcall := fun W b hr hb hcb => areAll_g58.has h p hp eg eg90 A c l r b W hr hb hcb hx
 have HC := Aside0.mk hcall
 have HR := Aside0.mk hr
 have EG := Aside0.mk eg
 clear hcall hr hp hx eg
 go_enter Tryd.func58, Tryd.ntmps58
 go_wp2_with (go_at_call 73; refine (HC.out _ _ (Kd.C_alloc HR.out _) (by simp) (by simp)).mono ?_; rintro e w' ⟨rfl, hb'⟩)
 go_ret
 exact ⟨rfl, below_then (below_alloc (Below.refl _ _) _) (by simp) hb'⟩

/-! ### impl_areAll_int__59: function 58 at the predicate 59 -/
def impl_areAll_int__59.f (l0 : List Int) : Option Bool := allO (fun x => impl_areLengths_1.f x) l0
theorem impl_areAll_int__59.calls (A0 : Option Addr) (c0 : Nat) (l0 : List Int) (r : Bool) (w : World) (hr0 : Kd.C (Kd.int .i64) w A0 l0.length l0) (hc0 : l0.length ≤ c0) (h : impl_areAll_int__59.f l0 = some r) :
  Calls Tryd.prog 58 #[.slice A0 l0.length c0, .func (.func 59) #[] #[]] w fun e w' => e = .returned (.bool r) ∧ Below w.heap.size w w' := by
 refine areAll_g58.all 59 (fun x => impl_areLengths_1.f x) (fun x r w h => ?_) (enters_of Tryd.func59 (by kernel_rfl) rfl) A0 c0 l0 r w hr0 h
 refine (impl_areLengths_1.calls x r w h).mono ?_
 rintro e w' ⟨rfl, hb⟩
 exact ⟨rfl, hb.below⟩

/-! ### impl_areLengths: function 46 -/
def impl_areLengths.f (l0 : List Int) : Option (Bool) := (impl_within.f (l0.length : Int) 1 24).bind fun t133 => (if t133 = true then ((impl_areAll_int__59.f l0).bind fun t134 => (some t134)) else (some false))
set_option maxHeartbeats 8000000 in
set_option maxRecDepth 100000 in
theorem impl_areLengths.calls (A0 : Option Addr) (c0 : Nat) (l0 : List Int) (r : Bool) (w : World) (hr0 : Kd.C (Kd.int .i64) w A0 l0.length l0) (hc0 : l0.length ≤ c0) (h : impl_areLengths.f l0 = some r) :
  Calls Tryd.prog 46 #[.slice A0 l0.length c0] w fun e w' => e = .returned (.bool r) ∧ Below w.heap.size w w' := by
 have HR0 := Aside0.mk hr0
 have HC0 := Aside0.mk hc0
 clear hr0 hc0
 have HB := Aside0.mk (Below.refl w.heap.size w)
 have H : ((impl_within.f (l0.length : Int) 1 24).bind fun t133 => (if t133 = true then ((impl_areAll_int__59.f l0).bind fun t134 => (some t134)) else (some false))) = some r := h
 clear h
 replace H := Option.bind_eq_some_iff.mp H
 obtain ⟨t133, A20, H⟩ := H
 try dsimp only at H
 have A2 := Aside0.mk A20
 clear A20
 by_cases c3 : t133 = true
 ·subst c3
  have H1 : ((impl_areAll_int__59.f l0).bind fun t134 => (some t134)) = some r := by rw [if_pos rfl] at H; exact H
  clear H
  have H := H1
  clear H1
  replace H := Option.bind_eq_some_iff.mp H
  obtain ⟨t134, A40, H⟩ := H
  try dsimp only at H
  have A4 := Aside0.mk A40
  clear A40
  obtain rfl := Option.some.inj H
  go_enter Tryd.func46, Tryd.ntmps46
  go_wp2_with (first | ((with_reducible refine gate_callee (f := 34) rfl ?_); refine goesL_ (some 5) rfl rfl Tryd.func34 (by kernel_rfl) rfl #[.int .i64 (l0.length : Int), .int .i64 1, .int .i64 24] rfl (by (try simp only [List.map_toArray, List.map_cons, List.map_nil]); first | done | rfl | (simp only [List.length_drop, List.length_take]; rfl)) ?_; (with_reducible refine (impl_within.calls (l0.length : Int) 1 24 true _ A2.out).mono ?_); rintro e w' ⟨rfl, ⟨nd, rfl⟩⟩; refine ⟨_, rfl, ?_⟩) | (go_at_call 58; (with_reducible refine (impl_areAll_int__59.calls _ _ l0  t134 _ ?side1 ?side2 A4.out).mono ?_); (case side1 => exact kc HR0.out); (case side2 => exact HC0.out); rintro e w5 ⟨rfl, hb⟩; have n0_ := Aside0.mk (below_step (bl HB.out) hb); clear HB; have HB := n0_; clear n0_; (try clear hb); (try clear hb2); (try clear hk); (try clear hi)))
  go_ret
  exact ⟨by first | rfl | (simp [errW_none, errW_some] <;> rfl) | (simp [*, errW_none, errW_some] <;> rfl), bl HB.out⟩
 ·replace c3 := Bool.eq_false_iff.mpr c3
  subst c3
  have H1 : (some false) = some r := by rw [if_neg (show ¬ (false = true) by decide)] at H; exact H
  clear H
  have H := H1
  clear H1
  obtain rfl := Option.some.inj H
  go_enter Tryd.func46, Tryd.ntmps46
  go_wp2_with (first | ((with_reducible refine gate_callee (f := 34) rfl ?_); refine goesL_ (some 5) rfl rfl Tryd.func34 (by kernel_rfl) rfl #[.int .i64 (l0.length : Int), .int .i64 1, .int .i64 24] rfl (by (try simp only [List.map_toArray, List.map_cons, List.map_nil]); first | done | rfl | (simp only [List.length_drop, List.length_take]; rfl)) ?_; (with_reducible refine (impl_within.calls (l0.length : Int) 1 24 false _ A2.out).mono ?_); rintro e w' ⟨rfl, ⟨nd, rfl⟩⟩; refine ⟨_, rfl, ?_⟩))
  go_ret
  exact ⟨by first | rfl | (simp [errW_none, errW_some] <;> rfl) | (simp [*, errW_none, errW_some] <;> rfl), bl HB.out⟩

/-! ### impl_kraft: function 47 -/
def impl_kraft.l0 : Nat → Int → List Int → Int → Int → Option (Int)
 | 0, _, _, _, _ => none
 | k + 1, x3, x6, x7, x8 => if x8 < x7 then (if 0 ≤ x8 then (if x8 < (x6.length : Int) then (if (rd x6 x8) > 0 then (if 0 ≤ (wrap64 (23 - (rd x6 x8))) then (impl_kraft.l0 k (wrap64 (x3 + (shl .i64 1 (wrap64 (23 - (rd x6 x8)))))) x6 x7 (wrap64 (x8 + 1))) else (none)) else (impl_kraft.l0 k x3 x6 x7 (wrap64 (x8 + 1)))) else (none)) else (none)) else (some x3)
def impl_kraft.f (k : Nat) (l0 : List Int) : Option (Int) := impl_kraft.l0 k 0 l0 (l0.length : Int) 0
theorem impl_kraft.mono_l : ∀ k, (∀ y0 y1 y2 y3, LeO (impl_kraft.l0 k y0 y1 y2 y3) (impl_kraft.l0 (k + 1) y0 y1 y2 y3))
 | 0 => fun _ _ _ _ r h => by simp [impl_kraft.l0] at h
 | k + 1 => by
  have ih0 := impl_kraft.mono_l k
  ·intro y0 y1 y2 y3
   unfold impl_kraft.l0
   repeat' first
   | (with_reducible exact ih0 _ _ _ _)
   | (with_reducible exact LeO.refl _)
   | (with_reducible exact LeO.none _)
   | (with_reducible refine LeO.ite ?_ ?_)
   | (with_reducible refine LeO.bind ?_ (fun _ => ?_))
   | exact ih0 _ _ _ _
   | exact LeO.none _
   | refine LeO.ite ?_ ?_
   | refine LeO.bind ?_ (fun _ => ?_)
theorem impl_kraft.mono : ∀ a0 k, LeO (impl_kraft.f k a0) (impl_kraft.f (k + 1) a0) := by
 intro a0 k
 have ih0 := impl_kraft.mono_l k
 unfold impl_kraft.f
 repeat' first
   | (with_reducible exact ih0 _ _ _ _)
   | (with_reducible exact LeO.refl _)
   | (with_reducible exact LeO.none _)
   | (with_reducible refine LeO.ite ?_ ?_)
   | (with_reducible refine LeO.bind ?_ (fun _ => ?_))
   | exact ih0 _ _ _ _
   | exact LeO.none _
   | refine LeO.ite ?_ ?_
   | refine LeO.bind ?_ (fun _ => ?_)
set_option maxHeartbeats 8000000 in
set_option maxRecDepth 100000 in
theorem impl_kraft.calls (k : Nat) (A0 : Option Addr) (c0 : Nat) (l0 : List Int) (r : Int) (w : World) (hr0 : Kd.C (Kd.int .i64) w A0 l0.length l0) (hc0 : l0.length ≤ c0) (h : impl_kraft.f k l0 = some r) :
  Calls Tryd.prog 47 #[.slice A0 l0.length c0] w fun e w' => e = .returned (.int .i64 r) ∧ Drawn0 w w' := by
 have HR0 := Aside0.mk hr0
 have HC0 := Aside0.mk hc0
 clear hr0 hc0
 have H : (impl_kraft.l0 k 0 l0 (l0.length : Int) 0) = some r := h
 clear h
 have H' := Aside0.mk H
 clear H
 go_enter Tryd.func47, Tryd.ntmps47
 go_wp2
 go_loopg [3, 8] k (fun kq v3 v8 w' => ∃ (x3_1 : Int) (x8_1 : Int), v3 = .int .i64 x3_1 ∧ v8 = .int .i64 x8_1 ∧ Aside0 (impl_kraft.l0 kq x3_1 l0 (l0.length : Int) x8_1 = some r) ∧ Aside0 (kq ≤ k) ∧ Drawn0 w w')
 case atStart => exact ⟨(0), (0), (by first | rfl | (simp; done) | (simp [*]; done)), (by first | rfl | (simp; done) | (simp [*]; done)), H', ⟨Nat.le_refl _⟩, by repeat (first | exact Drawn0.refl _ | apply Drawn0.step)⟩
 case round =>
  clear H'
  obtain ⟨x3_1, x8_1, rfl, rfl, HA, HK1, ⟨m1, rfl⟩⟩ := hrel
  cases gk with
  | zero => exact absurd HA.out (by simp [impl_kraft.l0])
  | succ k1 =>
   have H := HA.out
   clear HA
   simp only [impl_kraft.l0] at H
   by_cases c2 : x8_1 < (l0.length : Int)
   ·rw [if_pos c2] at H
    have c2b0 : decide (x8_1 < (l0.length : Int)) = true := decide_eq_true c2
    clear c2
    by_cases c3 : 0 ≤ x8_1
    ·rw [if_pos c3] at H
     have c3b0 : decide (0 ≤ x8_1) = true := decide_eq_true c3
     clear c3
     by_cases c4 : x8_1 < (l0.length : Int)
     ·rw [if_pos c4] at H
      have c4b0 : decide (x8_1 < (l0.length : Int)) = true := decide_eq_true c4
      clear c4
      by_cases c5 : (rd l0 x8_1) > 0
      ·rw [if_pos c5] at H
       have c5b0 : decide (0 < (rd l0 x8_1)) = true := decide_eq_true c5
       clear c5
       obtain ⟨ji6, hji6⟩ : ∃ j_ : Int, (wrap64 (23 - (rd l0 x8_1))) = j_ := ⟨_, rfl⟩
       replace H : (if 0 ≤ (ji6) then (impl_kraft.l0 k1 (wrap64 (x3_1 + (shl .i64 1 (ji6)))) l0 (l0.length : Int) (wrap64 (x8_1 + 1))) else (none)) = some r := by first | (rw [hji6] at H; exact H) | (simp only [hji6] at H ⊢; exact H)
       have hji6w : (IntKind.i64.wrap (23 - (rd l0 x8_1))) = ji6 := (i64_w _).trans hji6
       by_cases c7 : 0 ≤ (ji6)
       ·rw [if_pos c7] at H
        have c7b0 := eq_true c7
        have c7b1 : decide (0 ≤ (ji6)) = true := decide_eq_true c7
        clear c7
        obtain ⟨ji8, hji8⟩ : ∃ j_ : Int, (shl .i64 1 (ji6)) = j_ := ⟨_, rfl⟩
        replace H : (impl_kraft.l0 k1 (wrap64 (x3_1 + (ji8))) l0 (l0.length : Int) (wrap64 (x8_1 + 1))) = some r := by first | (rw [hji8] at H; exact H) | (simp only [hji8] at H ⊢; exact H)
        have hji8_ : (IntKind.i64.wrap (1 * 2 ^ min (ji6).toNat 64)) = ji8 := hji8
        have hji8z : (ji6) ≤ 64 → (IntKind.i64.wrap (1 * 2 ^ (ji6).toNat)) = ji8 := shl_small hji8
        have hji8u : (IntKind.i64.wrap (2 ^ min (ji6).toNat 64)) = ji8 := by have h_ := hji8_; rw [Int.one_mul] at h_; exact h_
        have hji8v : (ji6) ≤ 64 → (IntKind.i64.wrap (2 ^ (ji6).toNat)) = ji8 := fun hle_ => by have h_ := hji8z hle_; rw [Int.one_mul] at h_; exact h_
        have hji8y : (wrap64 (1 * 2 ^ min (ji6).toNat 64)) = ji8 := (i64_w _).symm.trans hji8_
        have hji8x : (ji6) ≤ 64 → (wrap64 (1 * 2 ^ (ji6).toNat)) = ji8 := fun h_ => (i64_w _).symm.trans (hji8z h_)
        have H' := Aside0.mk H
        clear H
        have p135 : 0 ≤ (x8_1 : Int) := of_decide_eq_true (by first | (with_reducible assumption) | assumption)
        have q135 : x8_1 < (l0.length : Int) := of_decide_eq_true (by first | (with_reducible assumption) | assumption)
        obtain ⟨ad135, e135, hx135_0⟩ := Kd.at_int HR0.out x8_1 p135 q135
        cases e135
        replace p135 := eq_true p135
        replace q135 := eq_true q135
        go_wp2
        go_roundg k1
        case measure => have := HK1.out; omega
        case rel => exact ⟨(wrap64 (x3_1 + (ji8))), (wrap64 (x8_1 + 1)), (by first | rfl | (simp; done) | (simp only [← hji8] <;> (first | rfl | simp)) | (simp [*]; done)), (by first | rfl | (simp; done) | (simp [*]; done)), H', ⟨by have := HK1.out; omega⟩, by repeat (first | exact Drawn0.refl _ | apply Drawn0.step)⟩
       ·rw [if_neg c7] at H
        exact absurd H (by simp)
      ·rw [if_neg c5] at H
       have c5b0 : decide (0 < (rd l0 x8_1)) = false := decide_eq_false c5
       clear c5
       have H' := Aside0.mk H
       clear H
       have p135 : 0 ≤ (x8_1 : Int) := of_decide_eq_true (by first | (with_reducible assumption) | assumption)
       have q135 : x8_1 < (l0.length : Int) := of_decide_eq_true (by first | (with_reducible assumption) | assumption)
       obtain ⟨ad135, e135, hx135_0⟩ := Kd.at_int HR0.out x8_1 p135 q135
       cases e135
       replace p135 := eq_true p135
       replace q135 := eq_true q135
       go_wp2
       go_roundg k1
       case measure => have := HK1.out; omega
       case rel => exact ⟨(x3_1), (wrap64 (x8_1 + 1)), (by first | rfl | (simp; done) | (simp [*]; done)), (by first | rfl | (simp; done) | (simp [*]; done)), H', ⟨by have := HK1.out; omega⟩, by repeat (first | exact Drawn0.refl _ | apply Drawn0.step)⟩
     ·rw [if_neg c4] at H
      exact absurd H (by simp)
    ·rw [if_neg c3] at H
     exact absurd H (by simp)
   ·rw [if_neg c2] at H
    have c2b0 : decide (x8_1 < (l0.length : Int)) = false := decide_eq_false c2
    clear c2
    obtain rfl := Option.some.inj H
    go_wp2
    go_ret
    exact ⟨by first | rfl | (simp; done) | (simp [*]; done), by repeat (first | exact Drawn0.refl _ | apply Drawn0.step)⟩

/-! ### impl_areRight: function 24 -/
def impl_areRight.f (k : Nat) (l0 : List Int) : Option (Bool) := (impl_areLengths.f l0).bind fun t136 => (if t136 = true then ((impl_kraft.f k l0).bind fun t137 => (some (decide (t137 ≤ 8388608)))) else (some false))
theorem impl_areRight.mono : ∀ a0 k, LeO (impl_areRight.f k a0) (impl_areRight.f (k + 1) a0) := by
 intro a0 k
 unfold impl_areRight.f
 repeat' first
   | (with_reducible exact impl_kraft.mono _ _)
   | (with_reducible exact LeO.refl _)
   | (with_reducible exact LeO.none _)
   | (with_reducible refine LeO.ite ?_ ?_)
   | (with_reducible refine LeO.bind ?_ (fun _ => ?_))
   | exact impl_kraft.mono _ _
   | exact LeO.none _
   | refine LeO.ite ?_ ?_
   | refine LeO.bind ?_ (fun _ => ?_)
set_option maxHeartbeats 8000000 in
set_option maxRecDepth 100000 in
theorem impl_areRight.calls (k : Nat) (A0 : Option Addr) (c0 : Nat) (l0 : List Int) (r : Bool) (w : World) (hr0 : Kd.C (Kd.int .i64) w A0 l0.length l0) (hc0 : l0.length ≤ c0) (h : impl_areRight.f k l0 = some r) :
  Calls Tryd.prog 24 #[.slice A0 l0.length c0] w fun e w' => e = .returned (.bool r) ∧ Below w.heap.size w w' := by
 have HR0 := Aside0.mk hr0
 have HC0 := Aside0.mk hc0
 clear hr0 hc0
 have HB := Aside0.mk (Below.refl w.heap.size w)
 have H : ((impl_areLengths.f l0).bind fun t136 => (if t136 = true then ((impl_kraft.f k l0).bind fun t137 => (some (decide (t137 ≤ 8388608)))) else (some false))) = some r := h
 clear h
 replace H := Option.bind_eq_some_iff.mp H
 obtain ⟨t136, A20, H⟩ := H
 try dsimp only at H
 have A2 := Aside0.mk A20
 clear A20
 by_cases c3 : t136 = true
 ·subst c3
  have H1 : ((impl_kraft.f k l0).bind fun t137 => (some (decide (t137 ≤ 8388608)))) = some r := by rw [if_pos rfl] at H; exact H
  clear H
  have H := H1
  clear H1
  replace H := Option.bind_eq_some_iff.mp H
  obtain ⟨t137, A40, H⟩ := H
  try dsimp only at H
  have A4 := Aside0.mk A40
  clear A40
  obtain rfl := Option.some.inj H
  go_enter Tryd.func24, Tryd.ntmps24
  go_wp2_with (first | ((with_reducible refine gate_callee (f := 46) rfl ?_); refine goesL_ (some 4) rfl rfl Tryd.func46 (by kernel_rfl) rfl #[.slice A0 l0.length c0] rfl (by (try simp only [List.map_toArray, List.map_cons, List.map_nil]); first | done | rfl | (simp only [List.length_drop, List.length_take]; rfl)) ?_; (with_reducible refine (impl_areLengths.calls _ _ l0 true _ ?side1 ?side2 A2.out).mono ?_); (case side1 => exact kc HR0.out); (case side2 => exact HC0.out); rintro e w5 ⟨rfl, hb⟩; refine ⟨_, rfl, ?_⟩; have n0_ := Aside0.mk (below_step (bl HB.out) hb); clear HB; have HB := n0_; clear n0_; (try clear hb); (try clear hb2); (try clear hk); (try clear hi)) | (go_at_call 47; (with_reducible refine (impl_kraft.calls k _ _ l0 t137 _ ?side1 ?side2 A4.out).mono ?_); (case side1 => exact kc (Kd.C_below HR0.out HB.out)); (case side2 => exact HC0.out); rintro e w' ⟨rfl, ⟨nd, rfl⟩⟩))
  go_ret
  exact ⟨by first | rfl | (simp [errW_none, errW_some] <;> rfl) | (simp [*, errW_none, errW_some] <;> rfl), bl HB.out⟩
 ·replace c3 := Bool.eq_false_iff.mpr c3
  subst c3
  have H1 : (some false) = some r := by rw [if_neg (show ¬ (false = true) by decide)] at H; exact H
  clear H
  have H := H1
  clear H1
  obtain rfl := Option.some.inj H
  go_enter Tryd.func24, Tryd.ntmps24
  go_wp2_with (first | ((with_reducible refine gate_callee (f := 46) rfl ?_); refine goesL_ (some 4) rfl rfl Tryd.func46 (by kernel_rfl) rfl #[.slice A0 l0.length c0] rfl (by (try simp only [List.map_toArray, List.map_cons, List.map_nil]); first | done | rfl | (simp only [List.length_drop, List.length_take]; rfl)) ?_; (with_reducible refine (impl_areLengths.calls _ _ l0 false _ ?side1 ?side2 A2.out).mono ?_); (case side1 => exact kc HR0.out); (case side2 => exact HC0.out); rintro e w6 ⟨rfl, hb⟩; refine ⟨_, rfl, ?_⟩; have n0_ := Aside0.mk (below_step (bl HB.out) hb); clear HB; have HB := n0_; clear n0_; (try clear hb); (try clear hb2); (try clear hk); (try clear hi)))
  go_ret
  exact ⟨by first | rfl | (simp [errW_none, errW_some] <;> rfl) | (simp [*, errW_none, errW_some] <;> rfl), bl HB.out⟩

-- NOT PRINTED: function 60 (strings_trimLeftByte)

-- NOT PRINTED: function 61 (strings_trimRightByte)

-- NOT PRINTED: function 62 (strings_makeASCIISet)

-- NOT PRINTED: function 75 (strings_asciiSet_contains)

-- NOT PRINTED: function 63 (strings_trimLeftASCII)

-- NOT PRINTED: function 64 (strings_trimRightASCII)

end Go.Proofs.YtobbhgghpjecjaaDoor.PFnBits
