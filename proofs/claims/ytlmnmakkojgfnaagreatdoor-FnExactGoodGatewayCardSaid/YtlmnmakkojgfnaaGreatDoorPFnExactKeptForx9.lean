-- written by a program of this session (wip/tool)
import Derived.Test.YtlmnmakkojgfnaaGreatDoorPFnExactKeptForx0
import Derived.Test.YtlmnmakkojgfnaaGreatDoorPFnExactKeptForx3
import Derived.Test.YtlmnmakkojgfnaaGreatDoorPFnExactKeptForx6
import Derived.Test.YtlmnmakkojgfnaaGreatDoorPFnExactKeptForx7
import Derived.Test.YtlmnmakkojgfnaaGreatDoorPFnExactKeptForx8
import Derived.Test.YtlmnmakkojgfnaaGreatDoorVOwn0
import Derived.Test.YtlmnmakkojgfnaaGreatDoorVOwnOpen
import Derived.WalkKit
import Derived.BigCall
import Derived.Test.YtlmnmakkojgfnaaGreatDoorOwnTr
import Derived.Test.YtlmnmakkojgfnaaGreatDoorVOwnShort
import Derived.Test.YtlmnmakkojgfnaaGreatDoorOwnSq
import Derived.Test.YtlmnmakkojgfnaaGreatDoorOwnIt
namespace Go.Proofs.YtlmnmakkojgfnaaGreatDoor.PFnExactKeptFor
open Go.RowKit Go.Proofs.YtlmnmakkojgfnaaGreatDoorW.PrintWords Go.Proofs.YtlmnmakkojgfnaaGreatDoorW.PrintLast Go.Proofs.YtlmnmakkojgfnaaGreatDoorW.PrintMore Go.Shelf Go.Proofs.YtlmnmakkojgfnaaGreatDoorOwn
attribute [local go_sem] max2_int min2_int max_two min_two max_three min_three max_four min_four   -- for this text's walks alone
set_option linter.unusedVariables false
set_option linter.unusedSimpArgs false

/-! ### spec_l9Vary: function 91 -/
mutual
def spec_l9Vary.l0 : Nat → Bool → List ByteArray → List ByteArray → Int → Int → Option (List ByteArray × Bool × Bool)
 | 0, _, _, _, _, _ => none
 | k + 1, x9, x10, x28, x29, x30 => if x30 < x29 then (if 0 ≤ x30 then (if x30 < (x28.length : Int) then (if (rdOf ByteArray.empty x28 x30).toList = ([42] : List UInt8) then (spec_l9Vary.l0 k true x10 x28 x29 (wrap64 (x30 + 1))) else ((spec_l3Token.f k (rdOf ByteArray.empty x28 x30)).bind fun t261 => (if t261 = true then ((spec_l1Lower.f (rdOf ByteArray.empty x28 x30)).bind fun t262 => (spec_l9Vary.l1 k x9 x10 t262 0 x28 x29 x30)) else (some (([] : List ByteArray), false, false))))) else (none)) else (none)) else (some (x10, x9, true))
def spec_l9Vary.l1 : Nat → Bool → List ByteArray → ByteArray → Int → List ByteArray → Int → Int → Option (List ByteArray × Bool × Bool)
 | 0, _, _, _, _, _, _, _ => none
 | k + 1, x9, x10, x12, x13, x28, x29, x30 => if x13 < (x10.length : Int) then (if 0 ≤ x13 then (if (Op.bytesLess ((rdOf ByteArray.empty x10 x13).toList) x12.toList) = true then (spec_l9Vary.l1 k x9 x10 x12 (wrap64 (x13 + 1)) x28 x29 x30) else (if (rdOf ByteArray.empty x10 x13).toList = x12.toList then (spec_l9Vary.l0 k x9 x10 x28 x29 (wrap64 (x30 + 1))) else (if x13 ≤ (x10.length : Int) then ((some (x10.take (x13 : Int).toNat : List ByteArray)).bind fun y265 => (if ([] : List ByteArray).length + y265.length < 8796093022208 then ((some (([] : List ByteArray) ++ y265 : List ByteArray)).bind fun y269 => (if y269.length < 8796093022208 then ((some (y269 ++ [x12] : List ByteArray)).bind fun y272 => ((some (x10.drop (x13 : Int).toNat : List ByteArray)).bind fun y275 => (if y272.length + y275.length < 8796093022208 then (spec_l9Vary.l0 k x9 (y272 ++ y275) x28 x29 (wrap64 (x30 + 1))) else (none)))) else (none))) else (none))) else (none)))) else (none)) else (if 0 ≤ x13 then (if x13 ≤ (x10.length : Int) then ((some (x10.take (x13 : Int).toNat : List ByteArray)).bind fun y282 => (if ([] : List ByteArray).length + y282.length < 8796093022208 then ((some (([] : List ByteArray) ++ y282 : List ByteArray)).bind fun y286 => (if y286.length < 8796093022208 then ((some (y286 ++ [x12] : List ByteArray)).bind fun y289 => ((some (x10.drop (x13 : Int).toNat : List ByteArray)).bind fun y292 => (if y289.length + y292.length < 8796093022208 then (spec_l9Vary.l0 k x9 (y289 ++ y292) x28 x29 (wrap64 (x30 + 1))) else (none)))) else (none))) else (none))) else (none)) else (none))
end
def spec_l9Vary.f (k : Nat) (a0_0 : Int) (a0_1 : ByteArray) (l0_2 : List (S105)) (a0_3 : ByteArray) : Option (List ByteArray × Bool × Bool) := (spec_l3Joined.f k l0_2 (⟨#[118, 97, 114, 121]⟩ : ByteArray)).bind fun bt254 => ((spec_l3List.f k bt254.1).bind fun bt256 => (if bt256.2 = true then (spec_l9Vary.l0 k false ([] : List ByteArray) bt256.1 (bt256.1.length : Int) 0) else (some (([] : List ByteArray), false, false))))
theorem spec_l9Vary.mono_l : ∀ k, (∀ y0 y1 y2 y3 y4, LeO (spec_l9Vary.l0 k y0 y1 y2 y3 y4) (spec_l9Vary.l0 (k + 1) y0 y1 y2 y3 y4)) ∧ (∀ y0 y1 y2 y3 y4 y5 y6, LeO (spec_l9Vary.l1 k y0 y1 y2 y3 y4 y5 y6) (spec_l9Vary.l1 (k + 1) y0 y1 y2 y3 y4 y5 y6))
 | 0 => ⟨fun _ _ _ _ _ r h => by simp [spec_l9Vary.l0] at h, fun _ _ _ _ _ _ _ r h => by simp [spec_l9Vary.l1] at h⟩
 | k + 1 => by
  obtain ⟨ih0, ih1⟩ := spec_l9Vary.mono_l k
  refine ⟨?_, ?_⟩
  ·intro y0 y1 y2 y3 y4
   unfold spec_l9Vary.l0
   repeat' with_reducible first | exact ih0 _ _ _ _ _ | exact ih1 _ _ _ _ _ _ _ | exact spec_l3Joined.mono _ _ _ | exact spec_l3List.mono _ _ | exact spec_l3Token.mono _ _ | exact LeO.refl _ | exact LeO.none _ | refine LeO.ite ?_ ?_ | refine LeO.bind ?_ (fun _ => ?_)
  ·intro y0 y1 y2 y3 y4 y5 y6
   unfold spec_l9Vary.l1
   repeat' with_reducible first | exact ih0 _ _ _ _ _ | exact ih1 _ _ _ _ _ _ _ | exact spec_l3Joined.mono _ _ _ | exact spec_l3List.mono _ _ | exact spec_l3Token.mono _ _ | exact LeO.refl _ | exact LeO.none _ | refine LeO.ite ?_ ?_ | refine LeO.bind ?_ (fun _ => ?_)
theorem spec_l9Vary.mono : ∀ a0 a1 a2 a3 k, LeO (spec_l9Vary.f k a0 a1 a2 a3) (spec_l9Vary.f (k + 1) a0 a1 a2 a3) := by
 intro a0 a1 a2 a3 k
 obtain ⟨ih0, ih1⟩ := spec_l9Vary.mono_l k
 unfold spec_l9Vary.f
 repeat' with_reducible first | exact ih0 _ _ _ _ _ | exact ih1 _ _ _ _ _ _ _ | exact spec_l3Joined.mono _ _ _ | exact spec_l3List.mono _ _ | exact spec_l3Token.mono _ _ | exact LeO.refl _ | exact LeO.none _ | refine LeO.ite ?_ ?_ | refine LeO.bind ?_ (fun _ => ?_)
set_option maxHeartbeats 8000000 in
set_option maxRecDepth 100000 in
theorem spec_l9Vary.calls (k : Nat) (a0_0 : Int) (a0_1 : ByteArray) (A0_2 : Option Addr) (c0_2 : Nat) (l0_2 : List (S105)) (a0_3 : ByteArray) (r1 : List ByteArray) (r2 : Bool) (r3 : Bool) (w : World) (hr0_2 : Kd.C k105 w A0_2 l0_2.length l0_2) (hc0_2 : l0_2.length ≤ c0_2) (h : spec_l9Vary.f k a0_0 a0_1 l0_2 a0_3 = some (r1, r2, r3)) :
  Calls Tryz.prog 91 #[.agg #[.int .i64 a0_0, .string a0_1, .slice A0_2 l0_2.length c0_2, .string a0_3]] w fun e w' => ∃ v0_ : Value, e = .returned (.tuple #[v0_, .bool r2, .bool r3]) ∧ Kd.R Kd.string 9 w' w.heap.size (fun _ => True) v0_ r1 ∧ Below w.heap.size w w' := by
 have hu57 := Tryz.underlying57
 have HR0_2 := ak hr0_2
 have HC0_2 := ak hc0_2
 clear hr0_2 hc0_2
 have HB := ak (Below.refl w.heap.size w)
 unfold spec_l9Vary.f at h; have H := h
 clear h
 replace H := bs H
 obtain ⟨⟨t254, t255⟩, A2, H⟩ := H
 try dsimp only at H
 replace H := bs H
 obtain ⟨⟨t256, t257⟩, A3, H⟩ := H
 try dsimp only at H
 by_cases c4 : t257 = true
 ·subst c4
  rw [if_pos rfl] at H
  have H' := ak H
  clear H
  go_enter Tryz.func91, Tryz.ntmps91
  go_wp2_with (first | ((with_reducible refine gd 1 ?_); refine bE 1 #[.int .i64 a0_0, .string a0_1, .slice A0_2 l0_2.length c0_2, .string a0_3] 57 ?_; intro gb253 hg w5 hbox hb; have BK253 := ak hbox; have GW253 := gs hg (bl HB.out); have GE253 := gs hg (bl HB.out); replace HB := ak (below_step (bl HB.out) hb); clear hb hbox hg; obtain ⟨_, _, _, _, _, _, _, _⟩ := b4 BK253.out) | ((with_reducible refine gc 135 ?_); refine gL 135 Tryz.func135 (some 18) #[.slice A0_2 l0_2.length c0_2, .string (⟨#[118, 97, 114, 121]⟩ : ByteArray)] ?_; (with_reducible refine (spec_l3Joined.calls k _ _ l0_2 (⟨#[118, 97, 114, 121]⟩ : ByteArray) t254 t255 _ ?side1 ?side2 A2.out).mono ?_); (case side1 => exact kc (Kd.C_below HR0_2.out HB.out)); (case side2 => exact HC0_2.out); rintro e w7 ⟨rfl, hb⟩; refine ⟨_, rfl, ?_⟩; replace BK253 := ak (blk_below (bk BK253.out) hb); replace HB := ak (below_step (bl1 HB.out GE253.out) hb); clear hb) | ((with_reducible refine gc 136 ?_); refine gL 136 Tryz.func136 (some 23) #[.string t254] ?_; (with_reducible refine (spec_l3List.calls k t254 t256 true _ A3.out).mono ?_); rintro e w8 ⟨v258, rfl, ho0, hb⟩; refine ⟨_, rfl, ?_⟩; have HO259 := ak (Kd.R_lower ho0 (below_size (bl1 HB.out GE253.out))); replace BK253 := ak (blk_below (bk BK253.out) hb); replace HB := ak (below_step (bl1 HB.out GE253.out) hb); clear hb ho0; obtain ⟨Ao9, co9, eo9⟩ := Kd.R_slice HO259.out; subst eo9))
  go_loopg [9, 10, 30] k (fun kq v9 v10 v30 w' => ∃ (x9_1 : Bool) (x10_1 : List ByteArray) (x30_1 : Int), v9 = .bool x9_1 ∧ v30 = .int .i64 x30_1 ∧ Aside0 (spec_l9Vary.l0 kq x9_1 x10_1 t256 (t256.length : Int) x30_1 = some (r1, r2, r3)) ∧ Aside0 (kq ≤ k) ∧ Aside0 (Kd.R Kd.string 9 w' w.heap.size (fun k_ => some k_ ≠ ((.slice Ao9 t256.length co9) : Value).ownBlock) v10 x10_1) ∧ Aside0 (Kd.R Kd.string 9 w' w.heap.size (fun k_ => some k_ ≠ (v10 : Value).ownBlock) (.slice Ao9 t256.length co9) t256) ∧ Aside0 (w'.heap[gb253]? = some (.cells #[.int .i64 a0_0, .string a0_1, (.slice A0_2 l0_2.length c0_2), .string a0_3] 57 (0, 0))) ∧ Aside0 (Below w.heap.size w w'))
  case atStart => exact ⟨(false), (([] : List ByteArray)), (0), (by first | rfl | (simp; done) | (simp [*]; done)), (by first | rfl | (simp; done) | (simp [*]; done)), H', ⟨Nat.le_refl _⟩, ⟨by first | exact Kd.R_nil _ _ _ _ _ | exact Kd.N_nil _ _ _ _ _ | exact Kd.V_nil _ _ _ _ _ | exact Kd.Q_nil _ _ _ _ _ | exact Kd.S_nil _ _ _ _ _⟩, ⟨by (with_reducible repeat (first | apply Kd.R_alloc | apply Kd.R_drewN | apply Kd.R_drew)); exact Kd.R_mono HO259.out (fun _ hk => (by simp [Value.ownBlock]))⟩, ⟨bk BK253.out⟩, ⟨bl1 HB.out GE253.out⟩⟩
  case round =>
   clear H'
   try clear c1
   try clear p2
   try clear c4
   try clear c9
   try clear hcz6_0
   try clear hcz6_1
   try clear hcz6_2
   try clear hcz6_3
   try clear hfz6_0
   try clear hfz6_1
   try clear hfz6_2
   try clear hfz6_3
   obtain ⟨x9_1, x10_1, x30_1, rfl, rfl, HA, HK1, HO_10, HO_28, BK253, HB⟩ := hrel
   cases gk with
   | zero => exact absurd HA.out (by simp [spec_l9Vary.l0])
   | succ k1 =>
    have H := HA.out
    clear HA
    simp only [spec_l9Vary.l0] at H
    by_cases c10 : x30_1 < (t256.length : Int)
    ·rw [if_pos c10] at H
     have c10b0 := decide_eq_true c10
     clear c10
     by_cases c11 : 0 ≤ x30_1
     ·rw [if_pos c11] at H
      have c11b0 := decide_eq_true c11
      clear c11
      by_cases c12 : x30_1 < (t256.length : Int)
      ·rw [if_pos c12] at H
       have c12b0 := decide_eq_true c12
       clear c12
       by_cases c13 : (rdOf ByteArray.empty t256 x30_1).toList = ([42] : List UInt8)
       ·rw [if_pos c13] at H
        have c13b0 : ((rdOf ByteArray.empty t256 x30_1).toList == ([42] : List UInt8)) = true := beq_iff_eq.mpr c13
        have c13b1 : ((rdOf ByteArray.empty t256 x30_1).toList != ([42] : List UInt8)) = false := bne_eq_false_iff_eq.mpr c13
        clear c13
        have H' := ak H
        clear H
        have p260 : 0 ≤ (x30_1 : Int) := od
        have q260 : x30_1 < (t256.length : Int) := od
        obtain ⟨ad260, e260, hx260_0⟩ := Kd.at_string (Kd.R_reads' HO_28.out).2.2 x30_1 p260 q260
        cases e260
        replace p260 := eq_true p260
        replace q260 := eq_true q260
        go_wp2
        go_roundg k1
        case measure => have := HK1.out; omega
        case rel => exact ⟨(true), (x10_1), (wrap64 (x30_1 + 1)), (by first | rfl | (simp; done) | (simp [*]; done)), (by first | rfl | (simp; done) | (simp [*]; done)), H', ⟨by have := HK1.out; omega⟩, ⟨kr HO_10.out⟩, ⟨kr HO_28.out⟩, ⟨bk BK253.out⟩, ⟨bl1 HB.out GE253.out⟩⟩
       ·rw [if_neg c13] at H
        have c13b0 : ((rdOf ByteArray.empty t256 x30_1).toList == ([42] : List UInt8)) = false := beq_eq_false_iff_ne.mpr c13
        have c13b1 : ((rdOf ByteArray.empty t256 x30_1).toList != ([42] : List UInt8)) = true := bne_iff_ne.mpr c13
        replace H := bs H
        obtain ⟨t261, A14, H⟩ := H
        try dsimp only at H
        by_cases c15 : t261 = true
        ·subst c15
         rw [if_pos rfl] at H
         replace H := bs H
         obtain ⟨t262, A16, H⟩ := H
         try dsimp only at H
         have H' := ak H
         clear H
         have p260 : 0 ≤ (x30_1 : Int) := od
         have q260 : x30_1 < (t256.length : Int) := od
         obtain ⟨ad260, e260, hx260_0⟩ := Kd.at_string (Kd.R_reads' HO_28.out).2.2 x30_1 p260 q260
         cases e260
         replace p260 := eq_true p260
         replace q260 := eq_true q260
         go_wp2_with (first | ((with_reducible refine gc 107 ?_); refine gL 107 Tryz.func107 (some 37) #[.string (rdOf ByteArray.empty t256 x30_1)] ?_; (with_reducible refine (spec_l3Token.calls k1 (rdOf ByteArray.empty t256 x30_1) true _ A14.out).mono ?_); rintro e w' ⟨rfl, ⟨nd, rfl⟩⟩; refine ⟨_, rfl, ?_⟩) | ((with_reducible refine gc 137 ?_); refine gL 137 Tryz.func137 (some 40) #[.string (rdOf ByteArray.empty t256 x30_1)] ?_; (with_reducible refine (spec_l1Lower.calls (rdOf ByteArray.empty t256 x30_1) t262 _ A16.out).mono ?_); rintro e w17 ⟨rfl, hb⟩; refine ⟨_, rfl, ?_⟩; replace HO_10 := ak (Kd.R_below (kr HO_10.out) hb); replace HO_28 := ak (Kd.R_below (kr HO_28.out) hb); replace BK253 := ak (blk_below (bk BK253.out) hb); replace HB := ak (below_step (bl1 HB.out GE253.out) hb); clear hb))
         go_loopg [13] k1 (fun kq v13 w' => ∃ (x13_2 : Int), v13 = .int .i64 x13_2 ∧ Aside0 (spec_l9Vary.l1 kq x9_1 x10_1 t262 x13_2 t256 (t256.length : Int) x30_1 = some (r1, r2, r3)) ∧ Aside0 (kq ≤ k1) ∧ Aside0 (Kd.R Kd.string 9 w' w.heap.size (fun k_ => some k_ ≠ ((.slice (some ad260) t256.length co9) : Value).ownBlock) u10 x10_1) ∧ Aside0 (Kd.R Kd.string 9 w' w.heap.size (fun k_ => some k_ ≠ (u10 : Value).ownBlock) (.slice (some ad260) t256.length co9) t256) ∧ Aside0 (w'.heap[gb253]? = some (.cells #[.int .i64 a0_0, .string a0_1, (.slice A0_2 l0_2.length c0_2), .string a0_3] 57 (0, 0))) ∧ Aside0 (Below w.heap.size w w'))
         case atStart => exact ⟨(0), (by first | rfl | (simp; done) | (simp [*]; done)), H', ⟨Nat.le_refl _⟩, ⟨kr HO_10.out⟩, ⟨kr HO_28.out⟩, ⟨bk BK253.out⟩, ⟨bl1 HB.out GE253.out⟩⟩
         case round =>
          clear H'
          try clear c1
          try clear p2
          try clear q2
          try clear hx2
          try clear c4
          try clear p6
          try clear c9
          try clear c10
          try clear c10b0
          try clear c11
          try clear c11b0
          try clear c12
          try clear c12b0
          try clear c13
          try clear c13b0
          try clear c13b1
          try clear c15
          try clear hcz6_0
          try clear hcz6_1
          try clear hcz6_2
          try clear hcz6_3
          try clear hfz6_0
          try clear hfz6_1
          try clear hfz6_2
          try clear hfz6_3
          try clear hx260_0
          try clear p2
          try clear p260
          try clear q260
          obtain ⟨x13_2, rfl, HA, HK2, HO_10, HO_28, BK253, HB⟩ := hrel
          cases gk with
          | zero => exact absurd HA.out (by simp [spec_l9Vary.l1])
          | succ k2 =>
           have H := HA.out
           clear HA
           simp only [spec_l9Vary.l1] at H
           by_cases c18 : x13_2 < (x10_1.length : Int)
           ·rw [if_pos c18] at H
            have c18b0 := decide_eq_true c18
            clear c18
            by_cases c19 : 0 ≤ x13_2
            ·rw [if_pos c19] at H
             have c19b0 := decide_eq_true c19
             clear c19
             by_cases c20 : (Op.bytesLess ((rdOf ByteArray.empty x10_1 x13_2).toList) t262.toList) = true
             ·rw [if_pos c20] at H
              have c20b0 : (Op.bytesLess ((rdOf ByteArray.empty x10_1 x13_2).toList) t262.toList) = true := c20
              clear c20
              have H' := ak H
              clear H
              obtain ⟨Ao21, co21, eo21⟩ := Kd.R_slice HO_10.out
              subst eo21
              have p263 : 0 ≤ (x13_2 : Int) := od
              have q263 : x13_2 < (x10_1.length : Int) := od
              obtain ⟨ad263, e263, hx263_0⟩ := Kd.at_string (Kd.R_reads' HO_10.out).2.2 x13_2 p263 q263
              cases e263
              replace p263 := eq_true p263
              replace q263 := eq_true q263
              go_wp2
              go_roundg k2
              case measure => have := HK1.out; have := HK2.out; omega
              case rel => exact ⟨(wrap64 (x13_2 + 1)), (by first | rfl | (simp; done) | (simp [*]; done)), H', ⟨by have := HK1.out; have := HK2.out; omega⟩, ⟨kr HO_10.out⟩, ⟨kr HO_28.out⟩, ⟨bk BK253.out⟩, ⟨bl1 HB.out GE253.out⟩⟩
             ·rw [if_neg c20] at H
              have c20b0 : (Op.bytesLess ((rdOf ByteArray.empty x10_1 x13_2).toList) t262.toList) = false := by simpa using c20
              clear c20
              by_cases c22 : (rdOf ByteArray.empty x10_1 x13_2).toList = t262.toList
              ·rw [if_pos c22] at H
               have c22b0 : ((rdOf ByteArray.empty x10_1 x13_2).toList == t262.toList) = true := beq_iff_eq.mpr c22
               have c22b1 : ((rdOf ByteArray.empty x10_1 x13_2).toList != t262.toList) = false := bne_eq_false_iff_eq.mpr c22
               clear c22
               have H' := ak H
               clear H
               obtain ⟨Ao23, co23, eo23⟩ := Kd.R_slice HO_10.out
               subst eo23
               have p263 : 0 ≤ (x13_2 : Int) := od
               have q263 : x13_2 < (x10_1.length : Int) := od
               obtain ⟨ad263, e263, hx263_0⟩ := Kd.at_string (Kd.R_reads' HO_10.out).2.2 x13_2 p263 q263
               cases e263
               replace p263 := eq_true p263
               replace q263 := eq_true q263
               have p264 : 0 ≤ (x13_2 : Int) := od
               have q264 : x13_2 < (x10_1.length : Int) := od
               obtain ⟨ad264, e264, hx264_0⟩ := Kd.at_string (Kd.R_reads' HO_10.out).2.2 x13_2 p264 q264
               obtain rfl : ad263 = ad264 := (by injection e264)
               replace p264 := eq_true p264
               replace q264 := eq_true q264
               go_wp2
               go_roundg k2
               case measure => have := HK1.out; have := HK2.out; omega
               case rel => exact ⟨(x9_1), (x10_1), (wrap64 (x30_1 + 1)), (by first | rfl | (simp; done) | (simp [*]; done)), (by first | rfl | (simp; done) | (simp [*]; done)), H', ⟨by have := HK1.out; have := HK2.out; omega⟩, ⟨kr HO_10.out⟩, ⟨kr HO_28.out⟩, ⟨bk BK253.out⟩, ⟨bl1 HB.out GE253.out⟩⟩
              ·rw [if_neg c22] at H
               have c22b0 : ((rdOf ByteArray.empty x10_1 x13_2).toList == t262.toList) = false := beq_eq_false_iff_ne.mpr c22
               have c22b1 : ((rdOf ByteArray.empty x10_1 x13_2).toList != t262.toList) = true := bne_iff_ne.mpr c22
               have c24b0 := eq_true (od : 0 ≤ x13_2)
               by_cases c25 : x13_2 ≤ (x10_1.length : Int)
               ·rw [if_pos c25] at H
                have c25b0 := eq_true c25
                have c25b1 := decide_eq_true c25
                clear c25
                obtain ⟨y265, hy265⟩ : ∃ y_ : List ByteArray, y_ = (x10_1.take (x13_2 : Int).toNat) := ⟨_, rfl⟩
                replace H : (if ([] : List ByteArray).length + y265.length < 8796093022208 then ((some (([] : List ByteArray) ++ y265 : List ByteArray)).bind fun y269 => (if y269.length < 8796093022208 then ((some (y269 ++ [t262] : List ByteArray)).bind fun y272 => ((some (x10_1.drop (x13_2 : Int).toNat : List ByteArray)).bind fun y275 => (if y272.length + y275.length < 8796093022208 then (spec_l9Vary.l0 k2 x9_1 (y272 ++ y275) t256 (t256.length : Int) (wrap64 (x30_1 + 1))) else (none)))) else (none))) else (none)) = some (r1, r2, r3) := by first | (rw [hy265]; with_reducible exact H) | (have H2_ := (Option.bind_some _ _).symm.trans H; rw [hy265]; with_reducible exact H2_) | (have H2_ := (Option.bind_some _ _).symm.trans H; with_reducible exact H2_) | with_reducible exact H | (rw [hy265]; exact H) | exact H
                have Ny265 := ak hy265
                clear hy265
                by_cases c26 : ([] : List ByteArray).length + y265.length < 8796093022208
                ·rw [if_pos c26] at H
                 have LMc26 := ak c26
                 clear c26
                 obtain ⟨y269, hy269⟩ : ∃ y_ : List ByteArray, y_ = (([] : List ByteArray) ++ y265) := ⟨_, rfl⟩
                 replace H : (if y269.length < 8796093022208 then ((some (y269 ++ [t262] : List ByteArray)).bind fun y272 => ((some (x10_1.drop (x13_2 : Int).toNat : List ByteArray)).bind fun y275 => (if y272.length + y275.length < 8796093022208 then (spec_l9Vary.l0 k2 x9_1 (y272 ++ y275) t256 (t256.length : Int) (wrap64 (x30_1 + 1))) else (none)))) else (none)) = some (r1, r2, r3) := by first | (rw [hy269]; with_reducible exact H) | (have H2_ := (Option.bind_some _ _).symm.trans H; rw [hy269]; with_reducible exact H2_) | (have H2_ := (Option.bind_some _ _).symm.trans H; with_reducible exact H2_) | with_reducible exact H | (rw [hy269]; exact H) | exact H
                 have Ny269 := ak hy269
                 clear hy269
                 by_cases c27 : y269.length < 8796093022208
                 ·rw [if_pos c27] at H
                  have LMc27 := ak c27
                  clear c27
                  obtain ⟨y272, hy272⟩ : ∃ y_ : List ByteArray, y_ = (y269 ++ [t262]) := ⟨_, rfl⟩
                  replace H : ((some (x10_1.drop (x13_2 : Int).toNat : List ByteArray)).bind fun y275 => (if y272.length + y275.length < 8796093022208 then (spec_l9Vary.l0 k2 x9_1 (y272 ++ y275) t256 (t256.length : Int) (wrap64 (x30_1 + 1))) else (none))) = some (r1, r2, r3) := by first | (rw [hy272]; with_reducible exact H) | (have H2_ := (Option.bind_some _ _).symm.trans H; rw [hy272]; with_reducible exact H2_) | (have H2_ := (Option.bind_some _ _).symm.trans H; with_reducible exact H2_) | with_reducible exact H | (rw [hy272]; exact H) | exact H
                  have Ny272 := ak hy272
                  clear hy272
                  have c28b0 := eq_true (od : 0 ≤ x13_2)
                  have c29b0 := eq_true (od : x13_2 ≤ (x10_1.length : Int))
                  obtain ⟨y275, hy275⟩ : ∃ y_ : List ByteArray, y_ = (x10_1.drop (x13_2 : Int).toNat) := ⟨_, rfl⟩
                  replace H : (if y272.length + y275.length < 8796093022208 then (spec_l9Vary.l0 k2 x9_1 (y272 ++ y275) t256 (t256.length : Int) (wrap64 (x30_1 + 1))) else (none)) = some (r1, r2, r3) := by first | (rw [hy275]; with_reducible exact H) | (have H2_ := (Option.bind_some _ _).symm.trans H; rw [hy275]; with_reducible exact H2_) | (have H2_ := (Option.bind_some _ _).symm.trans H; with_reducible exact H2_) | with_reducible exact H | (rw [hy275]; exact H) | exact H
                  have Ny275 := ak hy275
                  clear hy275
                  by_cases c30 : y272.length + y275.length < 8796093022208
                  ·rw [if_pos c30] at H
                   have LMc30 := ak c30
                   clear c30
                   obtain ⟨y279, hy279⟩ : ∃ y_ : List ByteArray, y_ = (y272 ++ y275) := ⟨_, rfl⟩
                   replace H : (spec_l9Vary.l0 k2 x9_1 y279 t256 (t256.length : Int) (wrap64 (x30_1 + 1))) = some (r1, r2, r3) := by first | (rw [hy279]; with_reducible exact H) | (have H2_ := (Option.bind_some _ _).symm.trans H; rw [hy279]; with_reducible exact H2_) | (have H2_ := (Option.bind_some _ _).symm.trans H; with_reducible exact H2_) | with_reducible exact H | (rw [hy279]; exact H) | exact H
                   have Ny279 := ak hy279
                   clear hy279
                   have H' := ak H
                   clear H
                   obtain ⟨Ao31, co31, eo31⟩ := Kd.R_slice HO_10.out
                   subst eo31
                   have p263 : 0 ≤ (x13_2 : Int) := od
                   have q263 : x13_2 < (x10_1.length : Int) := od
                   obtain ⟨ad263, e263, hx263_0⟩ := Kd.at_string (Kd.R_reads' HO_10.out).2.2 x13_2 p263 q263
                   cases e263
                   replace p263 := eq_true p263
                   replace q263 := eq_true q263
                   have p264 : 0 ≤ (x13_2 : Int) := od
                   have q264 : x13_2 < (x10_1.length : Int) := od
                   obtain ⟨ad264, e264, hx264_0⟩ := Kd.at_string (Kd.R_reads' HO_10.out).2.2 x13_2 p264 q264
                   obtain rfl : ad263 = ad264 := (by injection e264)
                   replace p264 := eq_true p264
                   replace q264 := eq_true q264
                   have q32 : (x13_2 : Int) ≤ ((x10_1.length : Int) : Int) := od
                   obtain ⟨i032, hi032, _, hsz32, _⟩ := info_parts info9
                   have hroom32 : x10_1.length ≤ co31 := (Kd.R_reads' HO_10.out).2.1
                   have hC32 : Kd.C Kd.string _ (some ad263) x10_1.length x10_1 := (Kd.R_reads' HO_10.out).2.2
                   have hcut32 := cut_to (P := Tryz.prog) 114 9 .i64 Tryz.underlying114 hi032 (some ad263) x10_1.length co31 x13_2 (od) q32 hroom32
                   have hr32 := Kd.C_take (m := (x13_2 : Int).toNat) hC32 (by omega)
                   have hy32 : y265.length = (x13_2 : Int).toNat := (by rw [Ny265.out, List.length_take]; omega)
                   rw [← Ny265.out] at hr32
                   rw [← hy32] at hcut32
                   have HR268 := ak hr32
                   have HC268 := ak (show y265.length ≤ co31 from by omega)
                   clear hr32 hC32 hroom32 hi032 hsz32
                   have KY32 := ak hy32
                   clear hy32
                   have KL32 := ak (show (x13_2 : Int).toNat ≤ x10_1.length from by omega)
                   replace q32 := eq_true q32
                   go_wp2_with (first | ((with_reducible refine gate_builtin (b := .append) (xs := #[.tmp 67, .tmp 70]) rfl ?_); at_builtin; refine Kd.R_append_rows Kd.string (w0 := w) w.heap.size rfl (.tmp 67) (.tmp 70) 114 9 (.string ⟨#[]⟩) 16 rfl Tryz.underlying114 info9 rfl (by decide) (by omega) (.slice none 0 0) ([] : List ByteArray) y265 _ _ _ (fun k_ => some k_ ≠ (.slice (some ad263) x10_1.length co31 : Value).ownBlock ∧ some k_ ≠ (.slice (some ad260) t256.length co9 : Value).ownBlock) (fun _ => False) rfl rfl ?aO ?aR (fun _ _ h => h) (fun _ h => h.elim) ?aF ?aB ?aS ?aL ?_; (case aR => repeat (first | exact (by repeat (first | (with_reducible exact HR268.out) | (with_reducible refine Kd.C_alloc ?_ _) | (with_reducible refine Kd.C_drewN ?_ _) | (with_reducible refine Kd.C_drew ?_) | exact HR268.out)) | (with_reducible refine Kd.C_alloc ?_ _) | (with_reducible refine Kd.C_drewN ?_ _) | (with_reducible refine Kd.C_drew ?_))); (case aB => exact (bl1 HB.out GE253.out)); (case aF => exact (fun k_ hk => ⟨Kd.fresh' (Kd.R_lt (kr HO_10.out)) k_ hk, Kd.fresh' (Kd.R_lt (kr HO_28.out)) k_ hk⟩)); (case aO => exact ((Kd.R_nil _ _ _ _ (fun k_ => some k_ ≠ (.slice (some ad263) x10_1.length co31 : Value).ownBlock ∧ some k_ ≠ (.slice (some ad260) t256.length co9 : Value).ownBlock)))); (case aS => exact (below_size (bl1 HB.out GE253.out))); (case aL => have := LMc26.out; omega); intro v270 w33 ho hb hg hat; rw [← Ny269.out] at ho; replace HO_28 := ak (Kd.R_after (Kd.R_apart_nil (kr HO_28.out)) hg hat); replace BK253 := ak (blk_grown (bk BK253.out) hg (by simp [Value.ownBlock])); replace HB := ak hb; replace HR268 := ak ((show Kd.C Kd.string w33 (some ad263) y265.length y265 from by rw [Ny265.out]; exact Kd.C_take (m := (x13_2 : Int).toNat) ((Kd.R_reads' (Kd.R_after (Kd.R_apart_nil (kr HO_10.out)) hg hat)).2.2) KL32.out)); replace HO_10 := ak (Kd.R_after (Kd.R_apart_nil (kr HO_10.out)) hg hat); have HO271 := ak ho; clear ho hb hg hat) | ((with_reducible refine gate_builtin (b := .append) (xs := #[.tmp 72, .tmp 74]) rfl ?_); at_builtin; refine Kd.R_append Kd.string (w0 := w) w.heap.size rfl (.tmp 72) (.tmp 74) 114 9 (.string ⟨#[]⟩) 16 rfl Tryz.underlying114 info9 rfl (by decide) (by omega) v270 y269 t262 [.string t262] (fun k_ => some k_ ≠ (.slice (some ad263) x10_1.length co31 : Value).ownBlock ∧ some k_ ≠ (.slice (some ad260) t256.length co9 : Value).ownBlock) (fun _ => False) rfl rfl ?aP (fun _ hk => hk.elim) ?aF ?aO ?aB ?aS ?aL ?_; (case aP => exact rfl); (case aB => exact (bl1 HB.out GE253.out)); (case aF => exact (fun k_ hk => ⟨Kd.fresh' (Kd.R_lt (kr HO_10.out)) k_ hk, Kd.fresh' (Kd.R_lt (kr HO_28.out)) k_ hk⟩)); (case aO => exact (kr HO271.out)); (case aS => exact (below_size (bl1 HB.out GE253.out))); (case aL => have := LMc27.out; omega); intro v273 w34 ho hb hg hat; rw [← Ny272.out] at ho; replace HO_28 := ak (Kd.R_after (ok := (fun k_ => some k_ ≠ (.slice (some ad263) x10_1.length co31 : Value).ownBlock)) (kr HO_28.out) hg hat); replace BK253 := ak (blk_grown (bk BK253.out) hg (Kd.R_ne HO271.out BK253.out (by decide))); replace HB := ak hb; replace HR268 := ak ((show Kd.C Kd.string w34 (some ad263) y265.length y265 from by rw [Ny265.out]; exact Kd.C_take (m := (x13_2 : Int).toNat) ((Kd.R_reads' (Kd.R_after (ok := (fun k_ => some k_ ≠ (.slice (some ad260) t256.length co9 : Value).ownBlock)) (kr HO_10.out) hg hat)).2.2) KL32.out)); replace HO_10 := ak (Kd.R_after (ok := (fun k_ => some k_ ≠ (.slice (some ad260) t256.length co9 : Value).ownBlock)) (kr HO_10.out) hg hat); have HO274 := ak ho; clear HO271; clear ho hb hg hat; have q35 : (x13_2 : Int) ≤ ((x10_1.length : Int) : Int) := od; obtain ⟨i035, hi035, _, hsz35, _⟩ := info_parts info9; have hroom35 : x10_1.length ≤ co31 := (Kd.R_reads' HO_10.out).2.1; have hC35 : Kd.C Kd.string _ (some ad263) x10_1.length x10_1 := (Kd.R_reads' HO_10.out).2.2; have q035 : (0 : Int) ≤ (x13_2 : Int) := od; have hcut35 := cut_from (P := Tryz.prog) 114 9 .i64 Tryz.underlying114 hi035 1 hsz35 (some ad263) x10_1.length co31 x13_2 q035 q35; have hr35 := Kd.C_drop (m := (x13_2 : Int).toNat) (c := co31) hC35 (by omega) hroom35; obtain ⟨A35, hA35⟩ : ∃ A1, A1 = (if co31 = (x13_2 : Int).toNat then (some ad263) else ((some ad263) : Option Addr).map (·.add ((x13_2 : Int).toNat * 1))) := ⟨_, rfl⟩; obtain ⟨c35, hc35⟩ : ∃ c1, c1 = co31 - (x13_2 : Int).toNat := ⟨_, rfl⟩; have hy35 : y275.length = x10_1.length - (x13_2 : Int).toNat := (by rw [Ny275.out, List.length_drop] <;> omega); rw [show (x10_1).drop (x13_2 : Int).toNat = y275 from Ny275.out.symm] at hr35; replace hr35 : Kd.C Kd.string _ A35 y275.length y275 := (by rw [hA35]; exact hr35); rw [← hy35, ← hA35, ← hc35] at hcut35; have HR278 := ak hr35; have HC278 := ak (show y275.length ≤ c35 from by rw [hy35, hc35]; exact Nat.sub_le_sub_right hroom35 _); clear hr35 hC35 hroom35 hi035 hsz35 hc35; have KY35 := ak hy35; have KA35 := ak hA35; clear hy35 hA35; have KL35 := ak (show (x13_2 : Int).toNat ≤ x10_1.length from by omega); replace q35 := eq_true q35) | ((with_reducible refine gate_builtin (b := .append) (xs := #[.tmp 76, .tmp 79]) rfl ?_); at_builtin; refine Kd.R_append_rows Kd.string (w0 := w) w.heap.size rfl (.tmp 76) (.tmp 79) 114 9 (.string ⟨#[]⟩) 16 rfl Tryz.underlying114 info9 rfl (by decide) (by omega) v273 y272 y275 _ _ _ (fun k_ => some k_ ≠ (.slice (some ad263) x10_1.length co31 : Value).ownBlock ∧ some k_ ≠ (.slice (some ad260) t256.length co9 : Value).ownBlock) (fun _ => False) rfl rfl ?aO ?aR (fun _ _ h => h) (fun _ h => h.elim) ?aF ?aB ?aS ?aL ?_; (case aR => repeat (first | exact (by repeat (first | (with_reducible exact HR278.out) | (with_reducible refine Kd.C_alloc ?_ _) | (with_reducible refine Kd.C_drewN ?_ _) | (with_reducible refine Kd.C_drew ?_) | exact HR278.out)) | (with_reducible refine Kd.C_alloc ?_ _) | (with_reducible refine Kd.C_drewN ?_ _) | (with_reducible refine Kd.C_drew ?_))); (case aB => exact (bl1 HB.out GE253.out)); (case aF => exact (fun k_ hk => ⟨Kd.fresh' (Kd.R_lt (kr HO_10.out)) k_ hk, Kd.fresh' (Kd.R_lt (kr HO_28.out)) k_ hk⟩)); (case aO => exact (kr HO274.out)); (case aS => exact (below_size (bl1 HB.out GE253.out))); (case aL => have := LMc30.out; omega); intro v280 w36 ho hb hg hat; rw [← Ny279.out] at ho; replace HO_28 := ak (Kd.R_after (ok := (fun k_ => some k_ ≠ (.slice (some ad263) x10_1.length co31 : Value).ownBlock)) (kr HO_28.out) hg hat); replace BK253 := ak (blk_grown (bk BK253.out) hg (Kd.R_ne HO274.out BK253.out (by decide))); replace HB := ak hb; replace HR268 := ak ((show Kd.C Kd.string w36 (some ad263) y265.length y265 from by rw [Ny265.out]; exact Kd.C_take (m := (x13_2 : Int).toNat) ((Kd.R_reads' (Kd.R_after (ok := (fun k_ => some k_ ≠ (.slice (some ad260) t256.length co9 : Value).ownBlock)) (kr HO_10.out) hg hat)).2.2) KL32.out)); replace HR278 := ak ((show Kd.C Kd.string w36 A35 y275.length y275 from by rw [Ny275.out, KA35.out]; exact Kd.C_drop (m := (x13_2 : Int).toNat) (c := co31) ((Kd.R_reads' (Kd.R_after (ok := (fun k_ => some k_ ≠ (.slice (some ad260) t256.length co9 : Value).ownBlock)) (kr HO_10.out) hg hat)).2.2) KL35.out ((Kd.R_reads' (Kd.R_after (ok := (fun k_ => some k_ ≠ (.slice (some ad260) t256.length co9 : Value).ownBlock)) (kr HO_10.out) hg hat)).2.1))); replace HO_10 := ak (Kd.R_after (ok := (fun k_ => some k_ ≠ (.slice (some ad260) t256.length co9 : Value).ownBlock)) (kr HO_10.out) hg hat); have HO281 := ak ho; clear HO274; clear ho hb hg hat))
                   go_roundg k2
                   case measure => have := HK1.out; have := HK2.out; omega
                   case rel => exact ⟨(x9_1), (y279), (wrap64 (x30_1 + 1)), (by first | rfl | (simp; done) | (simp [*]; done)), (by first | rfl | (simp; done) | (simp [*]; done)), H', ⟨by have := HK1.out; have := HK2.out; omega⟩, ⟨by (with_reducible repeat (first | apply Kd.R_alloc | apply Kd.R_drewN | apply Kd.R_drew)); exact Kd.R_mono HO281.out (fun _ hk => hk.2)⟩, ⟨by (with_reducible repeat (first | apply Kd.R_alloc | apply Kd.R_drewN | apply Kd.R_drew)); exact Kd.R_mono HO_28.out (fun _ hk => hk.2)⟩, ⟨bk BK253.out⟩, ⟨bl1 HB.out GE253.out⟩⟩
                  ·rw [if_neg c30] at H
                   exact absurd H (by simp)
                 ·rw [if_neg c27] at H
                  exact absurd H (by simp)
                ·rw [if_neg c26] at H
                 exact absurd H (by simp)
               ·rw [if_neg c25] at H
                exact absurd H (by simp)
            ·rw [if_neg c19] at H
             exact absurd H (by simp)
           ·rw [if_neg c18] at H
            have c18b0 := decide_eq_false c18
            clear c18
            by_cases c37 : 0 ≤ x13_2
            ·rw [if_pos c37] at H
             have c37b0 := eq_true c37
             have c37b1 := decide_eq_true c37
             clear c37
             by_cases c38 : x13_2 ≤ (x10_1.length : Int)
             ·rw [if_pos c38] at H
              have c38b0 := eq_true c38
              have c38b1 := decide_eq_true c38
              clear c38
              obtain ⟨y282, hy282⟩ : ∃ y_ : List ByteArray, y_ = (x10_1.take (x13_2 : Int).toNat) := ⟨_, rfl⟩
              replace H : (if ([] : List ByteArray).length + y282.length < 8796093022208 then ((some (([] : List ByteArray) ++ y282 : List ByteArray)).bind fun y286 => (if y286.length < 8796093022208 then ((some (y286 ++ [t262] : List ByteArray)).bind fun y289 => ((some (x10_1.drop (x13_2 : Int).toNat : List ByteArray)).bind fun y292 => (if y289.length + y292.length < 8796093022208 then (spec_l9Vary.l0 k2 x9_1 (y289 ++ y292) t256 (t256.length : Int) (wrap64 (x30_1 + 1))) else (none)))) else (none))) else (none)) = some (r1, r2, r3) := by first | (rw [hy282]; with_reducible exact H) | (have H2_ := (Option.bind_some _ _).symm.trans H; rw [hy282]; with_reducible exact H2_) | (have H2_ := (Option.bind_some _ _).symm.trans H; with_reducible exact H2_) | with_reducible exact H | (rw [hy282]; exact H) | exact H
              have Ny282 := ak hy282
              clear hy282
              by_cases c39 : ([] : List ByteArray).length + y282.length < 8796093022208
              ·rw [if_pos c39] at H
               have LMc39 := ak c39
               clear c39
               obtain ⟨y286, hy286⟩ : ∃ y_ : List ByteArray, y_ = (([] : List ByteArray) ++ y282) := ⟨_, rfl⟩
               replace H : (if y286.length < 8796093022208 then ((some (y286 ++ [t262] : List ByteArray)).bind fun y289 => ((some (x10_1.drop (x13_2 : Int).toNat : List ByteArray)).bind fun y292 => (if y289.length + y292.length < 8796093022208 then (spec_l9Vary.l0 k2 x9_1 (y289 ++ y292) t256 (t256.length : Int) (wrap64 (x30_1 + 1))) else (none)))) else (none)) = some (r1, r2, r3) := by first | (rw [hy286]; with_reducible exact H) | (have H2_ := (Option.bind_some _ _).symm.trans H; rw [hy286]; with_reducible exact H2_) | (have H2_ := (Option.bind_some _ _).symm.trans H; with_reducible exact H2_) | with_reducible exact H | (rw [hy286]; exact H) | exact H
               have Ny286 := ak hy286
               clear hy286
               by_cases c40 : y286.length < 8796093022208
               ·rw [if_pos c40] at H
                have LMc40 := ak c40
                clear c40
                obtain ⟨y289, hy289⟩ : ∃ y_ : List ByteArray, y_ = (y286 ++ [t262]) := ⟨_, rfl⟩
                replace H : ((some (x10_1.drop (x13_2 : Int).toNat : List ByteArray)).bind fun y292 => (if y289.length + y292.length < 8796093022208 then (spec_l9Vary.l0 k2 x9_1 (y289 ++ y292) t256 (t256.length : Int) (wrap64 (x30_1 + 1))) else (none))) = some (r1, r2, r3) := by first | (rw [hy289]; with_reducible exact H) | (have H2_ := (Option.bind_some _ _).symm.trans H; rw [hy289]; with_reducible exact H2_) | (have H2_ := (Option.bind_some _ _).symm.trans H; with_reducible exact H2_) | with_reducible exact H | (rw [hy289]; exact H) | exact H
                have Ny289 := ak hy289
                clear hy289
                have c41b0 := eq_true (od : 0 ≤ x13_2)
                have c42b0 := eq_true (od : x13_2 ≤ (x10_1.length : Int))
                obtain ⟨y292, hy292⟩ : ∃ y_ : List ByteArray, y_ = (x10_1.drop (x13_2 : Int).toNat) := ⟨_, rfl⟩
                replace H : (if y289.length + y292.length < 8796093022208 then (spec_l9Vary.l0 k2 x9_1 (y289 ++ y292) t256 (t256.length : Int) (wrap64 (x30_1 + 1))) else (none)) = some (r1, r2, r3) := by first | (rw [hy292]; with_reducible exact H) | (have H2_ := (Option.bind_some _ _).symm.trans H; rw [hy292]; with_reducible exact H2_) | (have H2_ := (Option.bind_some _ _).symm.trans H; with_reducible exact H2_) | with_reducible exact H | (rw [hy292]; exact H) | exact H
                have Ny292 := ak hy292
                clear hy292
                by_cases c43 : y289.length + y292.length < 8796093022208
                ·rw [if_pos c43] at H
                 have LMc43 := ak c43
                 clear c43
                 obtain ⟨y296, hy296⟩ : ∃ y_ : List ByteArray, y_ = (y289 ++ y292) := ⟨_, rfl⟩
                 replace H : (spec_l9Vary.l0 k2 x9_1 y296 t256 (t256.length : Int) (wrap64 (x30_1 + 1))) = some (r1, r2, r3) := by first | (rw [hy296]; with_reducible exact H) | (have H2_ := (Option.bind_some _ _).symm.trans H; rw [hy296]; with_reducible exact H2_) | (have H2_ := (Option.bind_some _ _).symm.trans H; with_reducible exact H2_) | with_reducible exact H | (rw [hy296]; exact H) | exact H
                 have Ny296 := ak hy296
                 clear hy296
                 have H' := ak H
                 clear H
                 obtain ⟨Ao44, co44, eo44⟩ := Kd.R_slice HO_10.out
                 subst eo44
                 have q45 : (x13_2 : Int) ≤ ((x10_1.length : Int) : Int) := od
                 obtain ⟨i045, hi045, _, hsz45, _⟩ := info_parts info9
                 have hroom45 : x10_1.length ≤ co44 := (Kd.R_reads' HO_10.out).2.1
                 have hC45 : Kd.C Kd.string _ Ao44 x10_1.length x10_1 := (Kd.R_reads' HO_10.out).2.2
                 have hcut45 := cut_to (P := Tryz.prog) 114 9 .i64 Tryz.underlying114 hi045 Ao44 x10_1.length co44 x13_2 (od) q45 hroom45
                 have hr45 := Kd.C_take (m := (x13_2 : Int).toNat) hC45 (by omega)
                 have hy45 : y282.length = (x13_2 : Int).toNat := (by rw [Ny282.out, List.length_take]; omega)
                 rw [← Ny282.out] at hr45
                 rw [← hy45] at hcut45
                 have HR285 := ak hr45
                 have HC285 := ak (show y282.length ≤ co44 from by omega)
                 clear hr45 hC45 hroom45 hi045 hsz45
                 have KY45 := ak hy45
                 clear hy45
                 have KL45 := ak (show (x13_2 : Int).toNat ≤ x10_1.length from by omega)
                 replace q45 := eq_true q45
                 go_wp2_with (first | ((with_reducible refine gate_builtin (b := .append) (xs := #[.tmp 67, .tmp 70]) rfl ?_); at_builtin; refine Kd.R_append_rows Kd.string (w0 := w) w.heap.size rfl (.tmp 67) (.tmp 70) 114 9 (.string ⟨#[]⟩) 16 rfl Tryz.underlying114 info9 rfl (by decide) (by omega) (.slice none 0 0) ([] : List ByteArray) y282 _ _ _ (fun k_ => some k_ ≠ (.slice Ao44 x10_1.length co44 : Value).ownBlock ∧ some k_ ≠ (.slice (some ad260) t256.length co9 : Value).ownBlock) (fun _ => False) rfl rfl ?aO ?aR (fun _ _ h => h) (fun _ h => h.elim) ?aF ?aB ?aS ?aL ?_; (case aR => repeat (first | exact (by repeat (first | (with_reducible exact HR285.out) | (with_reducible refine Kd.C_alloc ?_ _) | (with_reducible refine Kd.C_drewN ?_ _) | (with_reducible refine Kd.C_drew ?_) | exact HR285.out)) | (with_reducible refine Kd.C_alloc ?_ _) | (with_reducible refine Kd.C_drewN ?_ _) | (with_reducible refine Kd.C_drew ?_))); (case aB => exact (bl1 HB.out GE253.out)); (case aF => exact (fun k_ hk => ⟨Kd.fresh' (Kd.R_lt (kr HO_10.out)) k_ hk, Kd.fresh' (Kd.R_lt (kr HO_28.out)) k_ hk⟩)); (case aO => exact ((Kd.R_nil _ _ _ _ (fun k_ => some k_ ≠ (.slice Ao44 x10_1.length co44 : Value).ownBlock ∧ some k_ ≠ (.slice (some ad260) t256.length co9 : Value).ownBlock)))); (case aS => exact (below_size (bl1 HB.out GE253.out))); (case aL => have := LMc39.out; omega); intro v287 w46 ho hb hg hat; rw [← Ny286.out] at ho; replace HO_28 := ak (Kd.R_after (Kd.R_apart_nil (kr HO_28.out)) hg hat); replace BK253 := ak (blk_grown (bk BK253.out) hg (by simp [Value.ownBlock])); replace HB := ak hb; replace HR285 := ak ((show Kd.C Kd.string w46 Ao44 y282.length y282 from by rw [Ny282.out]; exact Kd.C_take (m := (x13_2 : Int).toNat) ((Kd.R_reads' (Kd.R_after (Kd.R_apart_nil (kr HO_10.out)) hg hat)).2.2) KL45.out)); replace HO_10 := ak (Kd.R_after (Kd.R_apart_nil (kr HO_10.out)) hg hat); have HO288 := ak ho; clear ho hb hg hat) | ((with_reducible refine gate_builtin (b := .append) (xs := #[.tmp 72, .tmp 74]) rfl ?_); at_builtin; refine Kd.R_append Kd.string (w0 := w) w.heap.size rfl (.tmp 72) (.tmp 74) 114 9 (.string ⟨#[]⟩) 16 rfl Tryz.underlying114 info9 rfl (by decide) (by omega) v287 y286 t262 [.string t262] (fun k_ => some k_ ≠ (.slice Ao44 x10_1.length co44 : Value).ownBlock ∧ some k_ ≠ (.slice (some ad260) t256.length co9 : Value).ownBlock) (fun _ => False) rfl rfl ?aP (fun _ hk => hk.elim) ?aF ?aO ?aB ?aS ?aL ?_; (case aP => exact rfl); (case aB => exact (bl1 HB.out GE253.out)); (case aF => exact (fun k_ hk => ⟨Kd.fresh' (Kd.R_lt (kr HO_10.out)) k_ hk, Kd.fresh' (Kd.R_lt (kr HO_28.out)) k_ hk⟩)); (case aO => exact (kr HO288.out)); (case aS => exact (below_size (bl1 HB.out GE253.out))); (case aL => have := LMc40.out; omega); intro v290 w47 ho hb hg hat; rw [← Ny289.out] at ho; replace HO_28 := ak (Kd.R_after (ok := (fun k_ => some k_ ≠ (.slice Ao44 x10_1.length co44 : Value).ownBlock)) (kr HO_28.out) hg hat); replace BK253 := ak (blk_grown (bk BK253.out) hg (Kd.R_ne HO288.out BK253.out (by decide))); replace HB := ak hb; replace HR285 := ak ((show Kd.C Kd.string w47 Ao44 y282.length y282 from by rw [Ny282.out]; exact Kd.C_take (m := (x13_2 : Int).toNat) ((Kd.R_reads' (Kd.R_after (ok := (fun k_ => some k_ ≠ (.slice (some ad260) t256.length co9 : Value).ownBlock)) (kr HO_10.out) hg hat)).2.2) KL45.out)); replace HO_10 := ak (Kd.R_after (ok := (fun k_ => some k_ ≠ (.slice (some ad260) t256.length co9 : Value).ownBlock)) (kr HO_10.out) hg hat); have HO291 := ak ho; clear HO288; clear ho hb hg hat; have q48 : (x13_2 : Int) ≤ ((x10_1.length : Int) : Int) := od; obtain ⟨i048, hi048, _, hsz48, _⟩ := info_parts info9; have hroom48 : x10_1.length ≤ co44 := (Kd.R_reads' HO_10.out).2.1; have hC48 : Kd.C Kd.string _ Ao44 x10_1.length x10_1 := (Kd.R_reads' HO_10.out).2.2; have q048 : (0 : Int) ≤ (x13_2 : Int) := od; have hcut48 := cut_from (P := Tryz.prog) 114 9 .i64 Tryz.underlying114 hi048 1 hsz48 Ao44 x10_1.length co44 x13_2 q048 q48; have hr48 := Kd.C_drop (m := (x13_2 : Int).toNat) (c := co44) hC48 (by omega) hroom48; obtain ⟨A48, hA48⟩ : ∃ A1, A1 = (if co44 = (x13_2 : Int).toNat then Ao44 else (Ao44 : Option Addr).map (·.add ((x13_2 : Int).toNat * 1))) := ⟨_, rfl⟩; obtain ⟨c48, hc48⟩ : ∃ c1, c1 = co44 - (x13_2 : Int).toNat := ⟨_, rfl⟩; have hy48 : y292.length = x10_1.length - (x13_2 : Int).toNat := (by rw [Ny292.out, List.length_drop] <;> omega); rw [show (x10_1).drop (x13_2 : Int).toNat = y292 from Ny292.out.symm] at hr48; replace hr48 : Kd.C Kd.string _ A48 y292.length y292 := (by rw [hA48]; exact hr48); rw [← hy48, ← hA48, ← hc48] at hcut48; have HR295 := ak hr48; have HC295 := ak (show y292.length ≤ c48 from by rw [hy48, hc48]; exact Nat.sub_le_sub_right hroom48 _); clear hr48 hC48 hroom48 hi048 hsz48 hc48; have KY48 := ak hy48; have KA48 := ak hA48; clear hy48 hA48; have KL48 := ak (show (x13_2 : Int).toNat ≤ x10_1.length from by omega); replace q48 := eq_true q48) | ((with_reducible refine gate_builtin (b := .append) (xs := #[.tmp 76, .tmp 79]) rfl ?_); at_builtin; refine Kd.R_append_rows Kd.string (w0 := w) w.heap.size rfl (.tmp 76) (.tmp 79) 114 9 (.string ⟨#[]⟩) 16 rfl Tryz.underlying114 info9 rfl (by decide) (by omega) v290 y289 y292 _ _ _ (fun k_ => some k_ ≠ (.slice Ao44 x10_1.length co44 : Value).ownBlock ∧ some k_ ≠ (.slice (some ad260) t256.length co9 : Value).ownBlock) (fun _ => False) rfl rfl ?aO ?aR (fun _ _ h => h) (fun _ h => h.elim) ?aF ?aB ?aS ?aL ?_; (case aR => repeat (first | exact (by repeat (first | (with_reducible exact HR295.out) | (with_reducible refine Kd.C_alloc ?_ _) | (with_reducible refine Kd.C_drewN ?_ _) | (with_reducible refine Kd.C_drew ?_) | exact HR295.out)) | (with_reducible refine Kd.C_alloc ?_ _) | (with_reducible refine Kd.C_drewN ?_ _) | (with_reducible refine Kd.C_drew ?_))); (case aB => exact (bl1 HB.out GE253.out)); (case aF => exact (fun k_ hk => ⟨Kd.fresh' (Kd.R_lt (kr HO_10.out)) k_ hk, Kd.fresh' (Kd.R_lt (kr HO_28.out)) k_ hk⟩)); (case aO => exact (kr HO291.out)); (case aS => exact (below_size (bl1 HB.out GE253.out))); (case aL => have := LMc43.out; omega); intro v297 w49 ho hb hg hat; rw [← Ny296.out] at ho; replace HO_28 := ak (Kd.R_after (ok := (fun k_ => some k_ ≠ (.slice Ao44 x10_1.length co44 : Value).ownBlock)) (kr HO_28.out) hg hat); replace BK253 := ak (blk_grown (bk BK253.out) hg (Kd.R_ne HO291.out BK253.out (by decide))); replace HB := ak hb; replace HR285 := ak ((show Kd.C Kd.string w49 Ao44 y282.length y282 from by rw [Ny282.out]; exact Kd.C_take (m := (x13_2 : Int).toNat) ((Kd.R_reads' (Kd.R_after (ok := (fun k_ => some k_ ≠ (.slice (some ad260) t256.length co9 : Value).ownBlock)) (kr HO_10.out) hg hat)).2.2) KL45.out)); replace HR295 := ak ((show Kd.C Kd.string w49 A48 y292.length y292 from by rw [Ny292.out, KA48.out]; exact Kd.C_drop (m := (x13_2 : Int).toNat) (c := co44) ((Kd.R_reads' (Kd.R_after (ok := (fun k_ => some k_ ≠ (.slice (some ad260) t256.length co9 : Value).ownBlock)) (kr HO_10.out) hg hat)).2.2) KL48.out ((Kd.R_reads' (Kd.R_after (ok := (fun k_ => some k_ ≠ (.slice (some ad260) t256.length co9 : Value).ownBlock)) (kr HO_10.out) hg hat)).2.1))); replace HO_10 := ak (Kd.R_after (ok := (fun k_ => some k_ ≠ (.slice (some ad260) t256.length co9 : Value).ownBlock)) (kr HO_10.out) hg hat); have HO298 := ak ho; clear HO291; clear ho hb hg hat))
                 go_roundg k2
                 case measure => have := HK1.out; have := HK2.out; omega
                 case rel => exact ⟨(x9_1), (y296), (wrap64 (x30_1 + 1)), (by first | rfl | (simp; done) | (simp [*]; done)), (by first | rfl | (simp; done) | (simp [*]; done)), H', ⟨by have := HK1.out; have := HK2.out; omega⟩, ⟨by (with_reducible repeat (first | apply Kd.R_alloc | apply Kd.R_drewN | apply Kd.R_drew)); exact Kd.R_mono HO298.out (fun _ hk => hk.2)⟩, ⟨by (with_reducible repeat (first | apply Kd.R_alloc | apply Kd.R_drewN | apply Kd.R_drew)); exact Kd.R_mono HO_28.out (fun _ hk => hk.2)⟩, ⟨bk BK253.out⟩, ⟨bl1 HB.out GE253.out⟩⟩
                ·rw [if_neg c43] at H
                 exact absurd H (by simp)
               ·rw [if_neg c40] at H
                exact absurd H (by simp)
              ·rw [if_neg c39] at H
               exact absurd H (by simp)
             ·rw [if_neg c38] at H
              exact absurd H (by simp)
            ·rw [if_neg c37] at H
             exact absurd H (by simp)
        ·replace c15 := Bool.eq_false_iff.mpr c15
         subst c15
         rw [if_neg ff] at H
         simp only [Option.some.injEq, Prod.mk.injEq] at H
         obtain ⟨rfl, rfl, rfl⟩ := H
         have p260 : 0 ≤ (x30_1 : Int) := od
         have q260 : x30_1 < (t256.length : Int) := od
         obtain ⟨ad260, e260, hx260_0⟩ := Kd.at_string (Kd.R_reads' HO_28.out).2.2 x30_1 p260 q260
         cases e260
         replace p260 := eq_true p260
         replace q260 := eq_true q260
         go_wp2_with (first | ((with_reducible refine gc 107 ?_); refine gL 107 Tryz.func107 (some 37) #[.string (rdOf ByteArray.empty t256 x30_1)] ?_; (with_reducible refine (spec_l3Token.calls k1 (rdOf ByteArray.empty t256 x30_1) false _ A14.out).mono ?_); rintro e w' ⟨rfl, ⟨nd, rfl⟩⟩; refine ⟨_, rfl, ?_⟩))
         go_ret3
         exact ⟨_, by first | rfl | (simp [errW_none, errW_some] <;> rfl) | (simp [*, errW_none, errW_some] <;> rfl), by first | exact Kd.R_nil _ _ _ _ _ | exact Kd.N_nil _ _ _ _ _ | exact Kd.V_nil _ _ _ _ _ | exact Kd.Q_nil _ _ _ _ _ | exact Kd.S_nil _ _ _ _ _, bl1 HB.out GE253.out⟩
      ·rw [if_neg c12] at H
       exact absurd H (by simp)
     ·rw [if_neg c11] at H
      exact absurd H (by simp)
    ·rw [if_neg c10] at H
     have c10b0 := decide_eq_false c10
     clear c10
     simp only [Option.some.injEq, Prod.mk.injEq] at H
     obtain ⟨rfl, rfl, rfl⟩ := H
     go_wp2
     go_ret3
     exact ⟨_, by first | rfl | (simp [errW_none, errW_some] <;> rfl) | (simp [*, errW_none, errW_some] <;> rfl), by (with_reducible repeat (first | apply Kd.R_alloc | apply Kd.R_drewN | apply Kd.R_drew)); exact Kd.R_mono HO_10.out (fun _ hk => trivial), bl1 HB.out GE253.out⟩
 ·replace c4 := Bool.eq_false_iff.mpr c4
  subst c4
  rw [if_neg ff] at H
  simp only [Option.some.injEq, Prod.mk.injEq] at H
  obtain ⟨rfl, rfl, rfl⟩ := H
  go_enter Tryz.func91, Tryz.ntmps91
  go_wp2_with (first | ((with_reducible refine gd 1 ?_); refine bE 1 #[.int .i64 a0_0, .string a0_1, .slice A0_2 l0_2.length c0_2, .string a0_3] 57 ?_; intro gb253 hg w50 hbox hb; have BK253 := ak hbox; have GW253 := gs hg (bl HB.out); have GE253 := gs hg (bl HB.out); replace HB := ak (below_step (bl HB.out) hb); clear hb hbox hg; obtain ⟨_, _, _, _, _, _, _, _⟩ := b4 BK253.out) | ((with_reducible refine gc 135 ?_); refine gL 135 Tryz.func135 (some 18) #[.slice A0_2 l0_2.length c0_2, .string (⟨#[118, 97, 114, 121]⟩ : ByteArray)] ?_; (with_reducible refine (spec_l3Joined.calls k _ _ l0_2 (⟨#[118, 97, 114, 121]⟩ : ByteArray) t254 t255 _ ?side1 ?side2 A2.out).mono ?_); (case side1 => exact kc (Kd.C_below HR0_2.out HB.out)); (case side2 => exact HC0_2.out); rintro e w52 ⟨rfl, hb⟩; refine ⟨_, rfl, ?_⟩; replace BK253 := ak (blk_below (bk BK253.out) hb); replace HB := ak (below_step (bl1 HB.out GE253.out) hb); clear hb) | ((with_reducible refine gc 136 ?_); refine gL 136 Tryz.func136 (some 23) #[.string t254] ?_; (with_reducible refine (spec_l3List.calls k t254 t256 false _ A3.out).mono ?_); rintro e w53 ⟨v258, rfl, ho0, hb⟩; refine ⟨_, rfl, ?_⟩; have HO259 := ak (Kd.R_lower ho0 (below_size (bl1 HB.out GE253.out))); replace BK253 := ak (blk_below (bk BK253.out) hb); replace HB := ak (below_step (bl1 HB.out GE253.out) hb); clear hb ho0))
  go_ret3
  exact ⟨_, by first | rfl | (simp [errW_none, errW_some] <;> rfl) | (simp [*, errW_none, errW_some] <;> rfl), by first | exact Kd.R_nil _ _ _ _ _ | exact Kd.N_nil _ _ _ _ _ | exact Kd.V_nil _ _ _ _ _ | exact Kd.Q_nil _ _ _ _ _ | exact Kd.S_nil _ _ _ _ _, bl1 HB.out GE253.out⟩

/-! ### spec_l2Number: function 155 -/
def spec_l2Number.l0 : Nat → ByteArray → Int → Int → Int → Int → Option (Int)
 | 0, _, _, _, _, _ => none
 | k + 1, x0, x1, x2, x7, x8 => if x8 < (wrap64 (x1 + x2)) then (if 0 ≤ x8 then (if x8 < (x0.size : Int) then ((spec_l1Digit.f (bt x0 x8)).bind fun t299 => (if t299 = true then (spec_l2Number.l0 k x0 x1 x2 (wrap64 ((wrap64 (10 * x7)) + (((bt x0 x8) - 48) % 256))) (wrap64 (x8 + 1))) else (some (-1)))) else (none)) else (none)) else (some x7)
def spec_l2Number.f (k : Nat) (a0 : ByteArray) (a1 : Int) (a2 : Int) : Option (Int) := if (wrap64 (a1 + a2)) > (a0.size : Int) then (some (-1)) else (spec_l2Number.l0 k a0 a1 a2 0 a1)
theorem spec_l2Number.mono_l : ∀ k, (∀ y0 y1 y2 y3 y4, LeO (spec_l2Number.l0 k y0 y1 y2 y3 y4) (spec_l2Number.l0 (k + 1) y0 y1 y2 y3 y4))
 | 0 => fun _ _ _ _ _ r h => by simp [spec_l2Number.l0] at h
 | k + 1 => by
  have ih0 := spec_l2Number.mono_l k
  ·intro y0 y1 y2 y3 y4
   unfold spec_l2Number.l0
   repeat' with_reducible first | exact ih0 _ _ _ _ _ | exact LeO.refl _ | exact LeO.none _ | refine LeO.ite ?_ ?_ | refine LeO.bind ?_ (fun _ => ?_)
theorem spec_l2Number.mono : ∀ a0 a1 a2 k, LeO (spec_l2Number.f k a0 a1 a2) (spec_l2Number.f (k + 1) a0 a1 a2) := by
 intro a0 a1 a2 k
 have ih0 := spec_l2Number.mono_l k
 unfold spec_l2Number.f
 repeat' with_reducible first | exact ih0 _ _ _ _ _ | exact LeO.refl _ | exact LeO.none _ | refine LeO.ite ?_ ?_ | refine LeO.bind ?_ (fun _ => ?_)
set_option maxHeartbeats 8000000 in
set_option maxRecDepth 100000 in
theorem spec_l2Number.calls (k : Nat) (a0 : ByteArray) (a1 : Int) (a2 : Int) (r : Int) (w : World) (h : spec_l2Number.f k a0 a1 a2 = some r) :
  Calls Tryz.prog 155 #[.string a0, .int .i64 a1, .int .i64 a2] w fun e w' => e = .returned (.int .i64 r) ∧ Drawn0 w w' := by
 unfold spec_l2Number.f at h; have H := h
 clear h
 by_cases c4 : (wrap64 (a1 + a2)) > (a0.size : Int)
 ·rw [if_pos c4] at H
  have c4b0 : decide ((a0.size : Int) < (wrap64 (a1 + a2))) = true := decide_eq_true c4
  clear c4
  obtain rfl := Option.some.inj H
  go_enter Tryz.func155, Tryz.ntmps155
  go_wp2
  go_ret
  exact ⟨by first | rfl | (simp; done) | (simp [*]; done) | (simp only [Ending.returned.injEq, Value.tuple.injEq, i64_w]; rfl) | (simp [i64_w]; rfl), by repeat (first | exact Drawn0.refl _ | apply Drawn0.step)⟩
 ·rw [if_neg c4] at H
  have c4b0 : decide ((a0.size : Int) < (wrap64 (a1 + a2))) = false := decide_eq_false c4
  clear c4
  have H' := ak H
  clear H
  go_enter Tryz.func155, Tryz.ntmps155
  go_wp2
  go_loopg [7, 8] k (fun kq v7 v8 w' => ∃ (x7_1 : Int) (x8_1 : Int), v7 = .int .i64 x7_1 ∧ v8 = .int .i64 x8_1 ∧ Aside0 (spec_l2Number.l0 kq a0 a1 a2 x7_1 x8_1 = some r) ∧ Aside0 (kq ≤ k) ∧ Drawn0 w w')
  case atStart => exact ⟨(0), (a1), (by first | rfl | (simp; done) | (simp [*]; done)), (by first | rfl | (simp; done) | (simp [*]; done)), H', ⟨Nat.le_refl _⟩, by repeat (first | exact Drawn0.refl _ | apply Drawn0.step)⟩
  case round =>
   clear H'
   try clear c1
   try clear p2
   try clear c4
   try clear c4b0
   obtain ⟨x7_1, x8_1, rfl, rfl, HA, HK1, ⟨m1, rfl⟩⟩ := hrel
   cases gk with
   | zero => exact absurd HA.out (by simp [spec_l2Number.l0])
   | succ k1 =>
    have H := HA.out
    clear HA
    simp only [spec_l2Number.l0] at H
    by_cases c5 : x8_1 < (wrap64 (a1 + a2))
    ·rw [if_pos c5] at H
     have c5b0 := decide_eq_true c5
     clear c5
     by_cases c6 : 0 ≤ x8_1
     ·rw [if_pos c6] at H
      have c6b0 := decide_eq_true c6
      clear c6
      by_cases c7 : x8_1 < (a0.size : Int)
      ·rw [if_pos c7] at H
       have c7b0 := decide_eq_true c7
       clear c7
       replace H := bs H
       obtain ⟨t299, A9, H⟩ := H
       try dsimp only at H
       by_cases c10 : t299 = true
       ·subst c10
        rw [if_pos rfl] at H
        have H' := ak H
        clear H
        have p8 : 0 ≤ (x8_1 : Int) := od
        have q8 : x8_1 < (a0.size : Int) := od
        have hx8 := bt_at a0 x8_1
        replace p8 := eq_true p8
        replace q8 := eq_true q8
        go_wp2_with (first | ((with_reducible refine gc 119 ?_); refine gL 119 Tryz.func119 (some 26) #[.int .u8 (bt a0 x8_1)] ?_; (with_reducible refine (spec_l1Digit.calls (bt a0 x8_1) true _ A9.out).mono ?_); rintro e w' ⟨rfl, ⟨nd, rfl⟩⟩; refine ⟨_, rfl, ?_⟩; have p11 : 0 ≤ (x8_1 : Int) := od; have q11 : x8_1 < (a0.size : Int) := od; have hx11 := bt_at a0 x8_1; replace p11 := eq_true p11; replace q11 := eq_true q11))
        go_roundg k1
        case measure => have := HK1.out; omega
        case rel => exact ⟨(wrap64 ((wrap64 (10 * x7_1)) + (((bt a0 x8_1) - 48) % 256))), (wrap64 (x8_1 + 1)), (by first | rfl | (simp; done) | (simp [*]; done)), (by first | rfl | (simp; done) | (simp [*]; done)), H', ⟨by have := HK1.out; omega⟩, by repeat (first | exact Drawn0.refl _ | apply Drawn0.step)⟩
       ·replace c10 := Bool.eq_false_iff.mpr c10
        subst c10
        rw [if_neg ff] at H
        obtain rfl := Option.some.inj H
        have p8 : 0 ≤ (x8_1 : Int) := od
        have q8 : x8_1 < (a0.size : Int) := od
        have hx8 := bt_at a0 x8_1
        replace p8 := eq_true p8
        replace q8 := eq_true q8
        go_wp2_with (first | ((with_reducible refine gc 119 ?_); refine gL 119 Tryz.func119 (some 26) #[.int .u8 (bt a0 x8_1)] ?_; (with_reducible refine (spec_l1Digit.calls (bt a0 x8_1) false _ A9.out).mono ?_); rintro e w' ⟨rfl, ⟨nd, rfl⟩⟩; refine ⟨_, rfl, ?_⟩))
        go_ret
        exact ⟨by first | rfl | (simp; done) | (simp [*]; done) | (simp only [Ending.returned.injEq, Value.tuple.injEq, i64_w]; rfl) | (simp [i64_w]; rfl), by repeat (first | exact Drawn0.refl _ | apply Drawn0.step)⟩
      ·rw [if_neg c7] at H
       exact absurd H (by simp)
     ·rw [if_neg c6] at H
      exact absurd H (by simp)
    ·rw [if_neg c5] at H
     have c5b0 := decide_eq_false c5
     clear c5
     obtain rfl := Option.some.inj H
     go_wp2
     go_ret
     exact ⟨by first | rfl | (simp; done) | (simp [*]; done) | (simp only [Ending.returned.injEq, Value.tuple.injEq, i64_w]; rfl) | (simp [i64_w]; rfl), by repeat (first | exact Drawn0.refl _ | apply Drawn0.step)⟩

end Go.Proofs.YtlmnmakkojgfnaaGreatDoor.PFnExactKeptFor
