-- written by a program of this session (wip/tool)
import Derived.Test.YthneflfbafieeaaGreatDoorPFnTornx0
import Derived.Test.YthneflfbafieeaaGreatDoorPFnTornx10
import Derived.Test.YthneflfbafieeaaGreatDoorPFnTornx11
import Derived.Test.YthneflfbafieeaaGreatDoorPFnTornx12
import Derived.Test.YthneflfbafieeaaGreatDoorPFnTornx13
import Derived.Test.YthneflfbafieeaaGreatDoorVOwn0
import Derived.Test.YthneflfbafieeaaGreatDoorVOwnOpen
import Derived.WalkKit
import Derived.BigCall
import Derived.Test.YthneflfbafieeaaGreatDoorOwnTr
import Derived.Test.YthneflfbafieeaaGreatDoorVOwnShort
import Derived.Test.YthneflfbafieeaaGreatDoorOwnSq
namespace Go.Proofs.YthneflfbafieeaaGreatDoor.PFnTorn
open Go.RowKit Go.Proofs.YthneflfbafieeaaGreatDoorW.PrintWords Go.Proofs.YthneflfbafieeaaGreatDoorW.PrintLast Go.Proofs.YthneflfbafieeaaGreatDoorW.PrintMore Go.Shelf Go.Proofs.YthneflfbafieeaaGreatDoorOwn
attribute [local go_sem] max2_int min2_int max_two min_two max_three min_three max_four min_four   -- for this text's walks alone
set_option linter.unusedVariables false
set_option linter.unusedSimpArgs false

/-! ### impl_lengthOf: function 67 -/
mutual
def impl_lengthOf.l0 : Nat → Int → Bool → List ByteArray → Int → Int → Option (Int × Bool × Bool)
 | 0, _, _, _, _, _ => none
 | k + 1, x5, x6, x16, x17, x18 => if x18 < x17 then (if 0 ≤ x18 then (if x18 < (x16.length : Int) then ((impl_listOf.f k (rdOf ByteArray.empty x16 x18)).bind fun bt258 => (if bt258.2 = true then (impl_lengthOf.j1 k x5 x6 bt258.1 x16 x17 x18 ((bt258.1.length : Int) == 0)) else (impl_lengthOf.j1 k x5 x6 bt258.1 x16 x17 x18 true))) else (none)) else (none)) else (some (x5, x6, true))
def impl_lengthOf.j1 : Nat → Int → Bool → List ByteArray → List ByteArray → Int → Int → Bool → Option (Int × Bool × Bool)
 | 0, _, _, _, _, _, _, _ => none
 | k + 1, x5, x6, x9, x16, x17, x18, x33 => if x33 = true then (some (0, false, false)) else (impl_lengthOf.l1 k x5 x6 x16 x17 x18 x9 (x9.length : Int) 0)
def impl_lengthOf.l1 : Nat → Int → Bool → List ByteArray → Int → Int → List ByteArray → Int → Int → Option (Int × Bool × Bool)
 | 0, _, _, _, _, _, _, _, _ => none
 | k + 1, x5, x6, x16, x17, x18, x34, x35, x36 => if x36 < x35 then (if 0 ≤ x36 then (if x36 < (x34.length : Int) then ((strconv_Atoi.f (rdOf ByteArray.empty x34 x36)).bind fun bt263 => (if bt263.2.isNone = true then (if ((rdOf ByteArray.empty x34 x36).size : Int) > 9 then (some (0, false, false)) else ((impl_areBytes_100.f (rdOf ByteArray.empty x34 x36)).bind fun t266 => (if t266 = true then (if x6 = true then (if bt263.1 = x5 then (impl_lengthOf.l1 k bt263.1 true x16 x17 x18 x34 x35 (wrap64 (x36 + 1))) else (some (0, false, false))) else (impl_lengthOf.l1 k bt263.1 true x16 x17 x18 x34 x35 (wrap64 (x36 + 1)))) else (some (0, false, false))))) else (some (0, false, false)))) else (none)) else (none)) else (impl_lengthOf.l0 k x5 x6 x16 x17 (wrap64 (x18 + 1)))
end
def impl_lengthOf.f (k : Nat) (l0 : List (S75)) : Option (Int × Bool × Bool) := (impl_valuesOf.f k l0 (⟨#[99, 111, 110, 116, 101, 110, 116, 45, 108, 101, 110, 103, 116, 104]⟩ : ByteArray)).bind fun t254 => (impl_lengthOf.l0 k 0 false t254 (t254.length : Int) 0)
theorem impl_lengthOf.mono_l : ∀ k, (∀ y0 y1 y2 y3 y4, LeO (impl_lengthOf.l0 k y0 y1 y2 y3 y4) (impl_lengthOf.l0 (k + 1) y0 y1 y2 y3 y4)) ∧ (∀ y0 y1 y2 y3 y4 y5 y6, LeO (impl_lengthOf.j1 k y0 y1 y2 y3 y4 y5 y6) (impl_lengthOf.j1 (k + 1) y0 y1 y2 y3 y4 y5 y6)) ∧ (∀ y0 y1 y2 y3 y4 y5 y6 y7, LeO (impl_lengthOf.l1 k y0 y1 y2 y3 y4 y5 y6 y7) (impl_lengthOf.l1 (k + 1) y0 y1 y2 y3 y4 y5 y6 y7))
 | 0 => ⟨fun _ _ _ _ _ r h => by simp [impl_lengthOf.l0] at h, fun _ _ _ _ _ _ _ r h => by simp [impl_lengthOf.j1] at h, fun _ _ _ _ _ _ _ _ r h => by simp [impl_lengthOf.l1] at h⟩
 | k + 1 => by
  obtain ⟨ih0, ih1, ih2⟩ := impl_lengthOf.mono_l k
  refine ⟨?_, ?_, ?_⟩
  ·intro y0 y1 y2 y3 y4
   unfold impl_lengthOf.l0
   repeat' with_reducible first | exact ih0 _ _ _ _ _ | exact ih1 _ _ _ _ _ _ _ | exact ih2 _ _ _ _ _ _ _ _ | exact impl_listOf.mono _ _ | exact impl_valuesOf.mono _ _ _ | exact LeO.refl _ | exact LeO.none _ | refine LeO.ite ?_ ?_ | refine LeO.bind ?_ (fun _ => ?_)
  ·intro y0 y1 y2 y3 y4 y5 y6
   unfold impl_lengthOf.j1
   repeat' with_reducible first | exact ih0 _ _ _ _ _ | exact ih1 _ _ _ _ _ _ _ | exact ih2 _ _ _ _ _ _ _ _ | exact impl_listOf.mono _ _ | exact impl_valuesOf.mono _ _ _ | exact LeO.refl _ | exact LeO.none _ | refine LeO.ite ?_ ?_ | refine LeO.bind ?_ (fun _ => ?_)
  ·intro y0 y1 y2 y3 y4 y5 y6 y7
   unfold impl_lengthOf.l1
   repeat' with_reducible first | exact ih0 _ _ _ _ _ | exact ih1 _ _ _ _ _ _ _ | exact ih2 _ _ _ _ _ _ _ _ | exact impl_listOf.mono _ _ | exact impl_valuesOf.mono _ _ _ | exact LeO.refl _ | exact LeO.none _ | refine LeO.ite ?_ ?_ | refine LeO.bind ?_ (fun _ => ?_)
theorem impl_lengthOf.mono : ∀ a0 k, LeO (impl_lengthOf.f k a0) (impl_lengthOf.f (k + 1) a0) := by
 intro a0 k
 obtain ⟨ih0, ih1, ih2⟩ := impl_lengthOf.mono_l k
 unfold impl_lengthOf.f
 repeat' with_reducible first | exact ih0 _ _ _ _ _ | exact ih1 _ _ _ _ _ _ _ | exact ih2 _ _ _ _ _ _ _ _ | exact impl_listOf.mono _ _ | exact impl_valuesOf.mono _ _ _ | exact LeO.refl _ | exact LeO.none _ | refine LeO.ite ?_ ?_ | refine LeO.bind ?_ (fun _ => ?_)
set_option maxHeartbeats 8000000 in
set_option maxRecDepth 100000 in
theorem impl_lengthOf.calls (k : Nat) (A0 : Option Addr) (c0 : Nat) (l0 : List (S75)) (r1 : Int) (r2 : Bool) (r3 : Bool) (w : World) (hr0 : Kd.C k75 w A0 l0.length l0) (hc0 : l0.length ≤ c0) (h : impl_lengthOf.f k l0 = some (r1, r2, r3)) (ht : Glob w) :
  Calls Tryz.prog 67 #[.slice A0 l0.length c0] w fun e w' => e = .returned (.tuple #[.int .i64 r1, .bool r2, .bool r3]) ∧ Below w.heap.size w w' := by
 have hu91 := Tryz.underlying91
 have HR0 := ak hr0
 have HC0 := ak hc0
 clear hr0 hc0
 have HT := ak ht
 clear ht
 have HB := ak (Below.refl w.heap.size w)
 have H : ((impl_valuesOf.f k l0 (⟨#[99, 111, 110, 116, 101, 110, 116, 45, 108, 101, 110, 103, 116, 104]⟩ : ByteArray)).bind fun t254 => (impl_lengthOf.l0 k 0 false t254 (t254.length : Int) 0)) = some (r1, r2, r3) := h
 clear h
 replace H := bs H
 obtain ⟨t254, A2, H⟩ := H
 try dsimp only at H
 have H' := ak H
 clear H
 go_enter Tryz.func67, Tryz.ntmps67
 go_wp2_with (first | ((with_reducible refine gc 97 ?_); refine gL 97 Tryz.func97 (some 16) #[.slice A0 l0.length c0, .string (⟨#[99, 111, 110, 116, 101, 110, 116, 45, 108, 101, 110, 103, 116, 104]⟩ : ByteArray)] ?_; (with_reducible refine (impl_valuesOf.calls k _ _ l0 (⟨#[99, 111, 110, 116, 101, 110, 116, 45, 108, 101, 110, 103, 116, 104]⟩ : ByteArray) t254 _ ?side1 ?side2 A2.out).mono ?_); (case side1 => exact kc HR0.out); (case side2 => exact HC0.out); rintro e w3 ⟨v255, rfl, ho0, hb⟩; refine ⟨_, rfl, ?_⟩; have HO256 := ak (Kd.R_lower ho0 (below_size (bl HB.out))); replace HB := ak (below_step (bl HB.out) hb); clear hb ho0; obtain ⟨Ao4, co4, eo4⟩ := Kd.R_slice HO256.out; subst eo4))
 go_loopg [5, 6, 18] k (fun kq v5 v6 v18 w' => ∃ (x5_1 : Int) (x6_1 : Bool) (x18_1 : Int), v5 = .int .i64 x5_1 ∧ v6 = .bool x6_1 ∧ v18 = .int .i64 x18_1 ∧ Aside0 (impl_lengthOf.l0 kq x5_1 x6_1 t254 (t254.length : Int) x18_1 = some (r1, r2, r3)) ∧ Aside0 (kq ≤ k) ∧ Aside0 (Kd.R Kd.string 9 w' w.heap.size (fun _ => True) (.slice Ao4 t254.length co4) t254) ∧ Aside0 (Below w.heap.size w w'))
 case atStart => exact ⟨(0), (false), (0), (by first | rfl | (simp; done) | (simp [*]; done)), (by first | rfl | (simp; done) | (simp [*]; done)), (by first | rfl | (simp; done) | (simp [*]; done)), H', ⟨Nat.le_refl _⟩, ⟨kr HO256.out⟩, ⟨bl HB.out⟩⟩
 case round =>
  clear H'
  try clear p2
  obtain ⟨x5_1, x6_1, x18_1, rfl, rfl, rfl, HA, HK1, HO_16, HB⟩ := hrel
  cases gk with
  | zero => exact absurd HA.out (by simp [impl_lengthOf.l0])
  | succ k1 =>
   have H := HA.out
   clear HA
   simp only [impl_lengthOf.l0] at H
   by_cases c5 : x18_1 < (t254.length : Int)
   ·rw [if_pos c5] at H
    have c5b0 : decide (x18_1 < (t254.length : Int)) = true := decide_eq_true c5
    clear c5
    by_cases c6 : 0 ≤ x18_1
    ·rw [if_pos c6] at H
     have c6b0 : decide (0 ≤ x18_1) = true := decide_eq_true c6
     clear c6
     by_cases c7 : x18_1 < (t254.length : Int)
     ·rw [if_pos c7] at H
      have c7b0 : decide (x18_1 < (t254.length : Int)) = true := decide_eq_true c7
      clear c7
      replace H := bs H
      obtain ⟨⟨t258, t259⟩, A8, H⟩ := H
      try dsimp only at H
      have HC9 := ak H
      clear H
      have p257 : 0 ≤ (x18_1 : Int) := od
      have q257 : x18_1 < (t254.length : Int) := od
      obtain ⟨ad257, e257, hx257_0⟩ := Kd.at_string (Kd.R_reads' HO_16.out).2.2 x18_1 p257 q257
      cases e257
      replace p257 := eq_true p257
      replace q257 := eq_true q257
      go_upto_region 6 with (first | ((with_reducible refine gc 98 ?_); refine gL 98 Tryz.func98 (some 24) #[.string (rdOf ByteArray.empty t254 x18_1)] ?_; (with_reducible refine (impl_listOf.calls k1 (rdOf ByteArray.empty t254 x18_1) t258 t259 _ A8.out).mono ?_); rintro e w10 ⟨v260, rfl, ho0, hb⟩; refine ⟨_, rfl, ?_⟩; have HO261 := ak (Kd.R_lower (Kd.R_new' ho0 (Kd.R_lt (kr HO_16.out))) (below_size (bl HB.out))); replace HO_16 := ak (Kd.R_elder' (kr HO_16.out) (Kd.R_base ho0) hb); replace HB := ak (below_step (bl HB.out) hb); clear hb ho0))
      (try simp only [Act.put, List.setIfInBounds_toArray, List.set_cons_zero, List.set_cons_succ])
      go_cut [33] (fun v33 wc => ∃ (kq : Nat) (x33_8 : Bool), v33 = .bool x33_8 ∧ Aside0 (impl_lengthOf.j1 kq x5_1 x6_1 t258 t254 (t254.length : Int) x18_1 x33_8 = some (r1, r2, r3)) ∧ Aside0 (kq ≤ k1) ∧ Aside0 (Kd.R Kd.string 9 wc w.heap.size (fun k_ => some k_ ≠ ((.slice (some ad257) t254.length co4) : Value).ownBlock) v260 t258) ∧ Aside0 (Kd.R Kd.string 9 wc w.heap.size (fun k_ => some k_ ≠ (v260 : Value).ownBlock) (.slice (some ad257) t254.length co4) t254) ∧ Aside0 (Below w.heap.size w wc))
      case first =>
       have H := HC9.out
       clear HC9
       by_cases c11 : t259 = true
       ·subst c11
        rw [if_pos rfl] at H
        have H' := ak H
        clear H
        obtain ⟨Ao12, co12, eo12⟩ := Kd.R_slice HO261.out
        subst eo12
        go_wp2
        go_meet
        case rel => exact ⟨_, (((t258.length : Int) == 0)), (by first | rfl | (simp; done) | (simp [*]; done)), H', ⟨by have := HK1.out; first | omega | exact Nat.le_refl _⟩, ⟨by (with_reducible repeat (first | apply Kd.R_alloc | apply Kd.R_drewN | apply Kd.R_drew)); exact Kd.R_mono HO261.out (fun _ hk => hk.2)⟩, ⟨by (with_reducible repeat (first | apply Kd.R_alloc | apply Kd.R_drewN | apply Kd.R_drew)); exact Kd.R_mono HO_16.out (fun _ hk => hk.2)⟩, ⟨bl HB.out⟩⟩
       ·replace c11 := Bool.eq_false_iff.mpr c11
        subst c11
        rw [if_neg ff] at H
        have H' := ak H
        clear H
        go_wp2
        go_meet
        case rel => exact ⟨_, (true), (by first | rfl | (simp; done) | (simp [*]; done)), H', ⟨by have := HK1.out; first | omega | exact Nat.le_refl _⟩, ⟨by (with_reducible repeat (first | apply Kd.R_alloc | apply Kd.R_drewN | apply Kd.R_drew)); exact Kd.R_mono HO261.out (fun _ hk => hk.2)⟩, ⟨by (with_reducible repeat (first | apply Kd.R_alloc | apply Kd.R_drewN | apply Kd.R_drew)); exact Kd.R_mono HO_16.out (fun _ hk => hk.2)⟩, ⟨bl HB.out⟩⟩
      case rest =>
       clear HC9
       try clear c1
       try clear p2
       try clear q2
       try clear hx2
       try clear c5
       try clear c5b0
       try clear c6
       try clear c6b0
       try clear c7
       try clear c7b0
       try clear c9
       try clear c11
       try clear hx257_0
       try clear p2
       try clear p257
       try clear q257
       obtain ⟨kq, x33_8, rfl, HA, HJ8, HO_9, HO_16, HB⟩ := hcut
       cases kq with
       | zero => exact absurd HA.out (by simp [impl_lengthOf.j1])
       | succ kj8 =>
        have H := HA.out
        clear HA
        simp only [impl_lengthOf.j1] at H
        by_cases c13 : x33_8 = true
        ·subst c13
         rw [if_pos rfl] at H
         simp only [Option.some.injEq, Prod.mk.injEq] at H
         obtain ⟨rfl, rfl, rfl⟩ := H
         go_wp2
         go_ret3
         exact ⟨by first | rfl | (simp [errW_none, errW_some, errV_none, errV_some] <;> rfl) | (simp [*, errW_none, errW_some] <;> rfl), bl HB.out⟩
        ·replace c13 := Bool.eq_false_iff.mpr c13
         subst c13
         rw [if_neg ff] at H
         have H' := ak H
         clear H
         obtain ⟨Ao14, co14, eo14⟩ := Kd.R_slice HO_9.out
         subst eo14
         go_wp2
         go_loopg [5, 6, 36] kj8 (fun kq v5 v6 v36 w' => ∃ (x5_3 : Int) (x6_3 : Bool) (x36_3 : Int), v5 = .int .i64 x5_3 ∧ v6 = .bool x6_3 ∧ v36 = .int .i64 x36_3 ∧ Aside0 (impl_lengthOf.l1 kq x5_3 x6_3 t254 (t254.length : Int) x18_1 t258 (t258.length : Int) x36_3 = some (r1, r2, r3)) ∧ Aside0 (kq ≤ kj8) ∧ Aside0 (Kd.R Kd.string 9 w' w.heap.size (fun k_ => some k_ ≠ ((.slice Ao14 t258.length co14) : Value).ownBlock) (.slice (some ad257) t254.length co4) t254) ∧ Aside0 (Kd.R Kd.string 9 w' w.heap.size (fun k_ => some k_ ≠ ((.slice (some ad257) t254.length co4) : Value).ownBlock) (.slice Ao14 t258.length co14) t258) ∧ Aside0 (Below w.heap.size w w'))
         case atStart => exact ⟨(x5_1), (x6_1), (0), (by first | rfl | (simp; done) | (simp [*]; done)), (by first | rfl | (simp; done) | (simp [*]; done)), (by first | rfl | (simp; done) | (simp [*]; done)), H', ⟨Nat.le_refl _⟩, ⟨kr HO_16.out⟩, ⟨kr HO_9.out⟩, ⟨bl HB.out⟩⟩
         case round =>
          clear H'
          try clear c1
          try clear p2
          try clear q2
          try clear hx2
          try clear c5
          try clear c5b0
          try clear c6
          try clear c6b0
          try clear c7
          try clear c7b0
          try clear c9
          try clear c11
          try clear c13
          try clear hx257_0
          try clear p2
          try clear p257
          try clear q2
          try clear q257
          obtain ⟨x5_3, x6_3, x36_3, rfl, rfl, rfl, HA, HK3, HO_16, HO_34, HB⟩ := hrel
          cases gk with
          | zero => exact absurd HA.out (by simp [impl_lengthOf.l1])
          | succ k3 =>
           have H := HA.out
           clear HA
           simp only [impl_lengthOf.l1] at H
           by_cases c15 : x36_3 < (t258.length : Int)
           ·rw [if_pos c15] at H
            have c15b0 : decide (x36_3 < (t258.length : Int)) = true := decide_eq_true c15
            clear c15
            by_cases c16 : 0 ≤ x36_3
            ·rw [if_pos c16] at H
             have c16b0 : decide (0 ≤ x36_3) = true := decide_eq_true c16
             clear c16
             by_cases c17 : x36_3 < (t258.length : Int)
             ·rw [if_pos c17] at H
              have c17b0 : decide (x36_3 < (t258.length : Int)) = true := decide_eq_true c17
              clear c17
              replace H := bs H
              obtain ⟨⟨t263, t264⟩, A18, H⟩ := H
              try dsimp only at H
              rcases t264 with _ | q265
              ·rw [if_pos (show (none : Option Int).isNone = true by rfl)] at H
               try simp only [errW_none, errW_some, errV_none, errV_some]
               by_cases c19 : ((rdOf ByteArray.empty t258 x36_3).size : Int) > 9
               ·rw [if_pos c19] at H
                have c19b0 : decide (9 < ((rdOf ByteArray.empty t258 x36_3).size : Int)) = true := decide_eq_true c19
                have c19b1 : decide (9 < (rdOf ByteArray.empty t258 x36_3).size) = true := decide_eq_true (by omega)
                clear c19
                simp only [Option.some.injEq, Prod.mk.injEq] at H
                obtain ⟨rfl, rfl, rfl⟩ := H
                have p262 : 0 ≤ (x36_3 : Int) := od
                have q262 : x36_3 < (t258.length : Int) := od
                obtain ⟨ad262, e262, hx262_0⟩ := Kd.at_string (Kd.R_reads' HO_34.out).2.2 x36_3 p262 q262
                cases e262
                replace p262 := eq_true p262
                replace q262 := eq_true q262
                go_wp2_with (first | ((with_reducible refine gc 77 ?_); refine gL 77 Tryz.func77 (some 42) #[.string (rdOf ByteArray.empty t258 x36_3)] ?_; (with_reducible refine (strconv_Atoi.calls (rdOf ByteArray.empty t258 x36_3) t263 none _ A18.out (globg HT.out (bl HB.out))).mono ?_); rintro e w20 ⟨tp_, p_, rfl, hb⟩; refine ⟨_, rfl, ?_⟩; replace HO_16 := ak (Kd.R_below (kr HO_16.out) hb); replace HO_34 := ak (Kd.R_below (kr HO_34.out) hb); replace HB := ak (below_step (bl HB.out) hb); clear hb; (try simp only [errW_none, errW_some, errV_none, errV_some])))
                go_ret3
                exact ⟨by first | rfl | (simp [errW_none, errW_some, errV_none, errV_some] <;> rfl) | (simp [*, errW_none, errW_some] <;> rfl), bl HB.out⟩
               ·rw [if_neg c19] at H
                have c19b0 : decide (9 < ((rdOf ByteArray.empty t258 x36_3).size : Int)) = false := decide_eq_false c19
                have c19b1 : decide (9 < (rdOf ByteArray.empty t258 x36_3).size) = false := decide_eq_false (by omega)
                clear c19
                replace H := bs H
                obtain ⟨t266, A21, H⟩ := H
                try dsimp only at H
                by_cases c22 : t266 = true
                ·subst c22
                 rw [if_pos rfl] at H
                 by_cases c23 : x6_3 = true
                 ·subst c23
                  rw [if_pos rfl] at H
                  by_cases c24 : t263 = x5_3
                  ·rw [if_pos c24] at H
                   have c24b0 : (t263 == x5_3) = true := beq_iff_eq.mpr c24
                   have c24b1 : (t263 != x5_3) = false := bne_eq_false_iff_eq.mpr c24
                   clear c24
                   have H' := ak H
                   clear H
                   have p262 : 0 ≤ (x36_3 : Int) := od
                   have q262 : x36_3 < (t258.length : Int) := od
                   obtain ⟨ad262, e262, hx262_0⟩ := Kd.at_string (Kd.R_reads' HO_34.out).2.2 x36_3 p262 q262
                   cases e262
                   replace p262 := eq_true p262
                   replace q262 := eq_true q262
                   go_wp2_with (first | ((with_reducible refine gc 77 ?_); refine gL 77 Tryz.func77 (some 42) #[.string (rdOf ByteArray.empty t258 x36_3)] ?_; (with_reducible refine (strconv_Atoi.calls (rdOf ByteArray.empty t258 x36_3) t263 none _ A18.out (globg HT.out (bl HB.out))).mono ?_); rintro e w25 ⟨tp_, p_, rfl, hb⟩; refine ⟨_, rfl, ?_⟩; replace HO_16 := ak (Kd.R_below (kr HO_16.out) hb); replace HO_34 := ak (Kd.R_below (kr HO_34.out) hb); replace HB := ak (below_step (bl HB.out) hb); clear hb; (try simp only [errW_none, errW_some, errV_none, errV_some])) | (go_at_call 99; (with_reducible refine (impl_areBytes_100.calls (rdOf ByteArray.empty t258 x36_3)  true _ A21.out).mono ?_); rintro e w26 ⟨rfl, hb⟩; replace HO_16 := ak (Kd.R_below (kr HO_16.out) hb); replace HO_34 := ak (Kd.R_below (kr HO_34.out) hb); replace HB := ak (below_step (bl HB.out) hb); clear hb))
                   go_roundg k3
                   case measure => have := HK1.out; have := HJ8.out; have := HK3.out; omega
                   case rel => exact ⟨(t263), (true), (wrap64 (x36_3 + 1)), (by first | rfl | (simp; done) | (simp [*]; done)), (by first | rfl | (simp; done) | (simp [*]; done)), (by first | rfl | (simp; done) | (simp [*]; done)), H', ⟨by have := HK1.out; have := HJ8.out; have := HK3.out; omega⟩, ⟨kr HO_16.out⟩, ⟨kr HO_34.out⟩, ⟨bl HB.out⟩⟩
                  ·rw [if_neg c24] at H
                   have c24b0 : (t263 == x5_3) = false := beq_eq_false_iff_ne.mpr c24
                   have c24b1 : (t263 != x5_3) = true := bne_iff_ne.mpr c24
                   simp only [Option.some.injEq, Prod.mk.injEq] at H
                   obtain ⟨rfl, rfl, rfl⟩ := H
                   have p262 : 0 ≤ (x36_3 : Int) := od
                   have q262 : x36_3 < (t258.length : Int) := od
                   obtain ⟨ad262, e262, hx262_0⟩ := Kd.at_string (Kd.R_reads' HO_34.out).2.2 x36_3 p262 q262
                   cases e262
                   replace p262 := eq_true p262
                   replace q262 := eq_true q262
                   go_wp2_with (first | ((with_reducible refine gc 77 ?_); refine gL 77 Tryz.func77 (some 42) #[.string (rdOf ByteArray.empty t258 x36_3)] ?_; (with_reducible refine (strconv_Atoi.calls (rdOf ByteArray.empty t258 x36_3) t263 none _ A18.out (globg HT.out (bl HB.out))).mono ?_); rintro e w27 ⟨tp_, p_, rfl, hb⟩; refine ⟨_, rfl, ?_⟩; replace HO_16 := ak (Kd.R_below (kr HO_16.out) hb); replace HO_34 := ak (Kd.R_below (kr HO_34.out) hb); replace HB := ak (below_step (bl HB.out) hb); clear hb; (try simp only [errW_none, errW_some, errV_none, errV_some])) | (go_at_call 99; (with_reducible refine (impl_areBytes_100.calls (rdOf ByteArray.empty t258 x36_3)  true _ A21.out).mono ?_); rintro e w28 ⟨rfl, hb⟩; replace HO_16 := ak (Kd.R_below (kr HO_16.out) hb); replace HO_34 := ak (Kd.R_below (kr HO_34.out) hb); replace HB := ak (below_step (bl HB.out) hb); clear hb))
                   go_ret3
                   exact ⟨by first | rfl | (simp [errW_none, errW_some, errV_none, errV_some] <;> rfl) | (simp [*, errW_none, errW_some] <;> rfl), bl HB.out⟩
                 ·replace c23 := Bool.eq_false_iff.mpr c23
                  subst c23
                  rw [if_neg ff] at H
                  have H' := ak H
                  clear H
                  have p262 : 0 ≤ (x36_3 : Int) := od
                  have q262 : x36_3 < (t258.length : Int) := od
                  obtain ⟨ad262, e262, hx262_0⟩ := Kd.at_string (Kd.R_reads' HO_34.out).2.2 x36_3 p262 q262
                  cases e262
                  replace p262 := eq_true p262
                  replace q262 := eq_true q262
                  go_wp2_with (first | ((with_reducible refine gc 77 ?_); refine gL 77 Tryz.func77 (some 42) #[.string (rdOf ByteArray.empty t258 x36_3)] ?_; (with_reducible refine (strconv_Atoi.calls (rdOf ByteArray.empty t258 x36_3) t263 none _ A18.out (globg HT.out (bl HB.out))).mono ?_); rintro e w29 ⟨tp_, p_, rfl, hb⟩; refine ⟨_, rfl, ?_⟩; replace HO_16 := ak (Kd.R_below (kr HO_16.out) hb); replace HO_34 := ak (Kd.R_below (kr HO_34.out) hb); replace HB := ak (below_step (bl HB.out) hb); clear hb; (try simp only [errW_none, errW_some, errV_none, errV_some])) | (go_at_call 99; (with_reducible refine (impl_areBytes_100.calls (rdOf ByteArray.empty t258 x36_3)  true _ A21.out).mono ?_); rintro e w30 ⟨rfl, hb⟩; replace HO_16 := ak (Kd.R_below (kr HO_16.out) hb); replace HO_34 := ak (Kd.R_below (kr HO_34.out) hb); replace HB := ak (below_step (bl HB.out) hb); clear hb))
                  go_roundg k3
                  case measure => have := HK1.out; have := HJ8.out; have := HK3.out; omega
                  case rel => exact ⟨(t263), (true), (wrap64 (x36_3 + 1)), (by first | rfl | (simp; done) | (simp [*]; done)), (by first | rfl | (simp; done) | (simp [*]; done)), (by first | rfl | (simp; done) | (simp [*]; done)), H', ⟨by have := HK1.out; have := HJ8.out; have := HK3.out; omega⟩, ⟨kr HO_16.out⟩, ⟨kr HO_34.out⟩, ⟨bl HB.out⟩⟩
                ·replace c22 := Bool.eq_false_iff.mpr c22
                 subst c22
                 rw [if_neg ff] at H
                 simp only [Option.some.injEq, Prod.mk.injEq] at H
                 obtain ⟨rfl, rfl, rfl⟩ := H
                 have p262 : 0 ≤ (x36_3 : Int) := od
                 have q262 : x36_3 < (t258.length : Int) := od
                 obtain ⟨ad262, e262, hx262_0⟩ := Kd.at_string (Kd.R_reads' HO_34.out).2.2 x36_3 p262 q262
                 cases e262
                 replace p262 := eq_true p262
                 replace q262 := eq_true q262
                 go_wp2_with (first | ((with_reducible refine gc 77 ?_); refine gL 77 Tryz.func77 (some 42) #[.string (rdOf ByteArray.empty t258 x36_3)] ?_; (with_reducible refine (strconv_Atoi.calls (rdOf ByteArray.empty t258 x36_3) t263 none _ A18.out (globg HT.out (bl HB.out))).mono ?_); rintro e w31 ⟨tp_, p_, rfl, hb⟩; refine ⟨_, rfl, ?_⟩; replace HO_16 := ak (Kd.R_below (kr HO_16.out) hb); replace HO_34 := ak (Kd.R_below (kr HO_34.out) hb); replace HB := ak (below_step (bl HB.out) hb); clear hb; (try simp only [errW_none, errW_some, errV_none, errV_some])) | (go_at_call 99; (with_reducible refine (impl_areBytes_100.calls (rdOf ByteArray.empty t258 x36_3)  false _ A21.out).mono ?_); rintro e w32 ⟨rfl, hb⟩; replace HO_16 := ak (Kd.R_below (kr HO_16.out) hb); replace HO_34 := ak (Kd.R_below (kr HO_34.out) hb); replace HB := ak (below_step (bl HB.out) hb); clear hb))
                 go_ret3
                 exact ⟨by first | rfl | (simp [errW_none, errW_some, errV_none, errV_some] <;> rfl) | (simp [*, errW_none, errW_some] <;> rfl), bl HB.out⟩
              ·rw [if_neg (show ¬ (some q265).isNone = true by simp)] at H
               try simp only [errW_none, errW_some, errV_none, errV_some]
               simp only [Option.some.injEq, Prod.mk.injEq] at H
               obtain ⟨rfl, rfl, rfl⟩ := H
               have p262 : 0 ≤ (x36_3 : Int) := od
               have q262 : x36_3 < (t258.length : Int) := od
               obtain ⟨ad262, e262, hx262_0⟩ := Kd.at_string (Kd.R_reads' HO_34.out).2.2 x36_3 p262 q262
               cases e262
               replace p262 := eq_true p262
               replace q262 := eq_true q262
               go_wp2_with (first | ((with_reducible refine gc 77 ?_); refine gL 77 Tryz.func77 (some 42) #[.string (rdOf ByteArray.empty t258 x36_3)] ?_; (with_reducible refine (strconv_Atoi.calls (rdOf ByteArray.empty t258 x36_3) t263 (some q265) _ A18.out (globg HT.out (bl HB.out))).mono ?_); rintro e w33 ⟨tp_, p_, rfl, hb⟩; refine ⟨_, rfl, ?_⟩; replace HO_16 := ak (Kd.R_below (kr HO_16.out) hb); replace HO_34 := ak (Kd.R_below (kr HO_34.out) hb); replace HB := ak (below_step (bl HB.out) hb); clear hb; (try simp only [errW_none, errW_some, errV_none, errV_some])))
               go_ret3
               exact ⟨by first | rfl | (simp [errW_none, errW_some, errV_none, errV_some] <;> rfl) | (simp [*, errW_none, errW_some] <;> rfl), bl HB.out⟩
             ·rw [if_neg c17] at H
              exact absurd H (by simp)
            ·rw [if_neg c16] at H
             exact absurd H (by simp)
           ·rw [if_neg c15] at H
            have c15b0 : decide (x36_3 < (t258.length : Int)) = false := decide_eq_false c15
            clear c15
            have H' := ak H
            clear H
            go_wp2
            go_roundg k3
            case measure => have := HK1.out; have := HJ8.out; have := HK3.out; omega
            case rel => exact ⟨(x5_3), (x6_3), (wrap64 (x18_1 + 1)), (by first | rfl | (simp; done) | (simp [*]; done)), (by first | rfl | (simp; done) | (simp [*]; done)), (by first | rfl | (simp; done) | (simp [*]; done)), H', ⟨by have := HK1.out; have := HJ8.out; have := HK3.out; omega⟩, ⟨by (with_reducible repeat (first | apply Kd.R_alloc | apply Kd.R_drewN | apply Kd.R_drew)); exact Kd.R_mono HO_16.out (fun _ hk => trivial)⟩, ⟨bl HB.out⟩⟩
     ·rw [if_neg c7] at H
      exact absurd H (by simp)
    ·rw [if_neg c6] at H
     exact absurd H (by simp)
   ·rw [if_neg c5] at H
    have c5b0 : decide (x18_1 < (t254.length : Int)) = false := decide_eq_false c5
    clear c5
    simp only [Option.some.injEq, Prod.mk.injEq] at H
    obtain ⟨rfl, rfl, rfl⟩ := H
    go_wp2
    go_ret3
    exact ⟨by first | rfl | (simp [errW_none, errW_some, errV_none, errV_some] <;> rfl) | (simp [*, errW_none, errW_some] <;> rfl), bl HB.out⟩

-- NOT PRINTED: function 30 (impl_take)

/-! ### impl_isTarget_1: function 105 -/
def impl_isTarget_1.f (a0 : Int) : Option (Bool) := if a0 ≥ 33 then (some (decide (a0 ≤ 126))) else (some false)
set_option maxHeartbeats 8000000 in
set_option maxRecDepth 100000 in
theorem impl_isTarget_1.calls (a0 : Int) (r : Bool) (w : World) (h : impl_isTarget_1.f a0 = some r) :
  Calls Tryz.prog 105 #[.int .u8 a0] w fun e w' => e = .returned (.bool r) ∧ Drawn0 w w' := by
 have H : (if a0 ≥ 33 then (some (decide (a0 ≤ 126))) else (some false)) = some r := h
 clear h
 by_cases c2 : a0 ≥ 33
 ·rw [if_pos c2] at H
  have c2b0 : decide (33 ≤ a0) = true := decide_eq_true c2
  clear c2
  obtain rfl := Option.some.inj H
  go_enter Tryz.func105, Tryz.ntmps105
  go_wp2
  go_ret
  exact ⟨by first | rfl | (simp; done) | (simp [*]; done), by repeat (first | exact Drawn0.refl _ | apply Drawn0.step)⟩
 ·rw [if_neg c2] at H
  have c2b0 : decide (33 ≤ a0) = false := decide_eq_false c2
  clear c2
  obtain rfl := Option.some.inj H
  go_enter Tryz.func105, Tryz.ntmps105
  go_wp2
  go_ret
  exact ⟨by first | rfl | (simp; done) | (simp [*]; done), by repeat (first | exact Drawn0.refl _ | apply Drawn0.step)⟩


/-! ### impl_areBytes_105: function 99 at the predicate 105 -/
def impl_areBytes_105.f (a0 : ByteArray) : Option Bool := if a0.size ≤ 9223372036854775807 then allO (fun x => impl_isTarget_1.f x) (bytesOf a0) else none
set_option maxHeartbeats 800000 in
set_option maxRecDepth 100000 in
theorem impl_areBytes_105.calls (a0 : ByteArray) (r : Bool) (w : World) (h : impl_areBytes_105.f a0 = some r) :
  Calls Tryz.prog 99 #[.string a0, .func (.func 105) #[] #[]] w fun e w' => e = .returned (.bool r) ∧ Below w.heap.size w w' := by
 unfold impl_areBytes_105.f at h
 split at h
 ·rename_i hm
  have HR := Kd.C_of_reads (d := (0 : Int)) (h1 := fun _ => rfl) (bytes_reads w 5 a0 hm)
  have HB := ak (bytes_below (Below.refl w.heap.size w) (Nat.le_refl _) 5 a0)
  have hcall := areAll_g125.all 105 (fun x => impl_isTarget_1.f x) (fun x r w h => by
   refine (impl_isTarget_1.calls x r w h).mono ?_
   rintro e w' ⟨rfl, hb⟩
   exact ⟨rfl, hb.below⟩) (enters_of Tryz.func105 (by kernel_rfl) rfl) (some ⟨w.heap.size, 0, none⟩) (grownCap w a0.size 0 5) (bytesOf a0) r (Lib.bytesWorld w 5 a0) (by rw [bytesOf_length]; exact HR) h
  rw [bytesOf_length] at hcall
  have HC := ak hcall
  clear h hcall HR
  have kb := fun W => print_bytes (P := Tryz.prog) 9 36 5 Tryz.underlying9 Tryz.underlying36 Tryz.underlying5 a0 W
  go_enter Tryz.func99, Tryz.ntmps99
  go_wp2_with (go_at_call 125; refine HC.out.mono ?_; rintro e w' ⟨rfl, hb⟩)
  go_ret
  exact ⟨rfl, below_then HB.out (by rw [Lib.bytesWorld_size]; omega) hb⟩
 ·cases h


/-! ### impl_isTarget: function 70 -/
def impl_isTarget.f (a0 : ByteArray) : Option (Bool) := (impl_within.f (a0.size : Int) 1 200).bind fun t265 => (if t265 = true then ((impl_areBytes_105.f a0).bind fun t266 => (some t266)) else (some false))
set_option maxHeartbeats 8000000 in
set_option maxRecDepth 100000 in
theorem impl_isTarget.calls (a0 : ByteArray) (r : Bool) (w : World) (h : impl_isTarget.f a0 = some r) :
  Calls Tryz.prog 70 #[.string a0] w fun e w' => e = .returned (.bool r) ∧ Below w.heap.size w w' := by
 have HB := ak (Below.refl w.heap.size w)
 have H : ((impl_within.f (a0.size : Int) 1 200).bind fun t265 => (if t265 = true then ((impl_areBytes_105.f a0).bind fun t266 => (some t266)) else (some false))) = some r := h
 clear h
 replace H := bs H
 obtain ⟨t265, A2, H⟩ := H
 try dsimp only at H
 by_cases c3 : t265 = true
 ·subst c3
  rw [if_pos rfl] at H
  replace H := bs H
  obtain ⟨t266, A4, H⟩ := H
  try dsimp only at H
  obtain rfl := Option.some.inj H
  go_enter Tryz.func70, Tryz.ntmps70
  go_wp2_with (first | ((with_reducible refine gc 79 ?_); refine gL 79 Tryz.func79 (some 5) #[.int .i64 (a0.size : Int), .int .i64 1, .int .i64 200] ?_; (with_reducible refine (impl_within.calls (a0.size : Int) 1 200 true _ A2.out).mono ?_); rintro e w' ⟨rfl, ⟨nd, rfl⟩⟩; refine ⟨_, rfl, ?_⟩) | (go_at_call 99; (with_reducible refine (impl_areBytes_105.calls a0  t266 _ A4.out).mono ?_); rintro e w5 ⟨rfl, hb⟩; replace HB := ak (below_step (bl HB.out) hb); clear hb))
  go_ret
  exact ⟨by first | rfl | (simp [errW_none, errW_some] <;> rfl) | (simp [*, errW_none, errW_some] <;> rfl), bl HB.out⟩
 ·replace c3 := Bool.eq_false_iff.mpr c3
  subst c3
  rw [if_neg ff] at H
  obtain rfl := Option.some.inj H
  go_enter Tryz.func70, Tryz.ntmps70
  go_wp2_with (first | ((with_reducible refine gc 79 ?_); refine gL 79 Tryz.func79 (some 5) #[.int .i64 (a0.size : Int), .int .i64 1, .int .i64 200] ?_; (with_reducible refine (impl_within.calls (a0.size : Int) 1 200 false _ A2.out).mono ?_); rintro e w' ⟨rfl, ⟨nd, rfl⟩⟩; refine ⟨_, rfl, ?_⟩))
  go_ret
  exact ⟨by first | rfl | (simp [errW_none, errW_some] <;> rfl) | (simp [*, errW_none, errW_some] <;> rfl), bl HB.out⟩

/-! ### impl_isRequestLine: function 33 -/
def impl_isRequestLine.f (a0_0 : ByteArray) (a0_1 : ByteArray) (l0_2 : List (S75)) (a0_3 : ByteArray) : Option (Bool) := (impl_isToken.f a0_0).bind fun t268 => (if t268 = true then (if (a0_0.size : Int) ≤ 10 then ((impl_isTarget.f a0_1).bind fun t269 => (some t269)) else (some false)) else (some false))
set_option maxHeartbeats 8000000 in
set_option maxRecDepth 100000 in
theorem impl_isRequestLine.calls (a0_0 : ByteArray) (a0_1 : ByteArray) (A0_2 : Option Addr) (c0_2 : Nat) (l0_2 : List (S75)) (a0_3 : ByteArray) (r : Bool) (w : World) (hr0_2 : Kd.C k75 w A0_2 l0_2.length l0_2) (hc0_2 : l0_2.length ≤ c0_2) (h : impl_isRequestLine.f a0_0 a0_1 l0_2 a0_3 = some r) :
  Calls Tryz.prog 33 #[.agg #[.string a0_0, .string a0_1, .slice A0_2 l0_2.length c0_2, .string a0_3]] w fun e w' => e = .returned (.bool r) ∧ Below w.heap.size w w' := by
 have hu24 := Tryz.underlying24
 have HR0_2 := ak hr0_2
 have HC0_2 := ak hc0_2
 clear hr0_2 hc0_2
 have HB := ak (Below.refl w.heap.size w)
 have H : ((impl_isToken.f a0_0).bind fun t268 => (if t268 = true then (if (a0_0.size : Int) ≤ 10 then ((impl_isTarget.f a0_1).bind fun t269 => (some t269)) else (some false)) else (some false))) = some r := h
 clear h
 replace H := bs H
 obtain ⟨t268, A2, H⟩ := H
 try dsimp only at H
 by_cases c3 : t268 = true
 ·subst c3
  rw [if_pos rfl] at H
  by_cases c4 : (a0_0.size : Int) ≤ 10
  ·rw [if_pos c4] at H
   have c4b0 : decide ((a0_0.size : Int) ≤ 10) = true := decide_eq_true c4
   have c4b1 : decide (a0_0.size ≤ 10) = true := decide_eq_true (by omega)
   clear c4
   replace H := bs H
   obtain ⟨t269, A5, H⟩ := H
   try dsimp only at H
   obtain rfl := Option.some.inj H
   go_enter Tryz.func33, Tryz.ntmps33
   go_wp2_with (first | ((with_reducible refine gd 1 ?_); (try (refine gate_guard (by rfl) ?_; dsimp only)); refine bE 1 #[.string a0_0, .string a0_1, .slice A0_2 l0_2.length c0_2, .string a0_3] 24 ?_; intro gb267 hg w6 hbox hb; have BK267 := ak hbox; have GW267 := gs hg (bl HB.out); have GE267 := gs hg (bl HB.out); replace HB := ak (below_step (bl HB.out) hb); clear hb hbox hg; obtain ⟨hcz7_0, hcz7_1, hcz7_2, hcz7_3, hfz7_0, hfz7_1, hfz7_2, hfz7_3⟩ := b4 BK267.out) | ((with_reducible refine gc 69 ?_); refine gL 69 Tryz.func69 (some 5) #[.string a0_0] ?_; (with_reducible refine (impl_isToken.calls a0_0 true _ A2.out).mono ?_); rintro e w8 ⟨rfl, hb⟩; refine ⟨_, rfl, ?_⟩; replace BK267 := ak (blk_below (bk BK267.out) hb); replace HB := ak (below_step (bl1 HB.out GE267.out) hb); clear hb; obtain ⟨hcz9_0, hcz9_1, hcz9_2, hcz9_3, hfz9_0, hfz9_1, hfz9_2, hfz9_3⟩ := b4 BK267.out) | (go_at_call 70; (with_reducible refine (impl_isTarget.calls a0_1 t269 _ A5.out).mono ?_); rintro e w10 ⟨rfl, hb⟩; replace BK267 := ak (blk_below (bk BK267.out) hb); replace HB := ak (below_step (bl1 HB.out GE267.out) hb); clear hb))
   go_ret
   exact ⟨by first | rfl | (simp [errW_none, errW_some] <;> rfl) | (simp [*, errW_none, errW_some] <;> rfl), bl1 HB.out GE267.out⟩
  ·rw [if_neg c4] at H
   have c4b0 : decide ((a0_0.size : Int) ≤ 10) = false := decide_eq_false c4
   have c4b1 : decide (a0_0.size ≤ 10) = false := decide_eq_false (by omega)
   clear c4
   obtain rfl := Option.some.inj H
   go_enter Tryz.func33, Tryz.ntmps33
   go_wp2_with (first | ((with_reducible refine gd 1 ?_); (try (refine gate_guard (by rfl) ?_; dsimp only)); refine bE 1 #[.string a0_0, .string a0_1, .slice A0_2 l0_2.length c0_2, .string a0_3] 24 ?_; intro gb267 hg w11 hbox hb; have BK267 := ak hbox; have GW267 := gs hg (bl HB.out); have GE267 := gs hg (bl HB.out); replace HB := ak (below_step (bl HB.out) hb); clear hb hbox hg; obtain ⟨hcz12_0, hcz12_1, hcz12_2, hcz12_3, hfz12_0, hfz12_1, hfz12_2, hfz12_3⟩ := b4 BK267.out) | ((with_reducible refine gc 69 ?_); refine gL 69 Tryz.func69 (some 5) #[.string a0_0] ?_; (with_reducible refine (impl_isToken.calls a0_0 true _ A2.out).mono ?_); rintro e w13 ⟨rfl, hb⟩; refine ⟨_, rfl, ?_⟩; replace BK267 := ak (blk_below (bk BK267.out) hb); replace HB := ak (below_step (bl1 HB.out GE267.out) hb); clear hb; obtain ⟨hcz14_0, hcz14_1, hcz14_2, hcz14_3, hfz14_0, hfz14_1, hfz14_2, hfz14_3⟩ := b4 BK267.out))
   go_ret
   exact ⟨by first | rfl | (simp [errW_none, errW_some] <;> rfl) | (simp [*, errW_none, errW_some] <;> rfl), bl1 HB.out GE267.out⟩
 ·replace c3 := Bool.eq_false_iff.mpr c3
  subst c3
  rw [if_neg ff] at H
  obtain rfl := Option.some.inj H
  go_enter Tryz.func33, Tryz.ntmps33
  go_wp2_with (first | ((with_reducible refine gd 1 ?_); (try (refine gate_guard (by rfl) ?_; dsimp only)); refine bE 1 #[.string a0_0, .string a0_1, .slice A0_2 l0_2.length c0_2, .string a0_3] 24 ?_; intro gb267 hg w15 hbox hb; have BK267 := ak hbox; have GW267 := gs hg (bl HB.out); have GE267 := gs hg (bl HB.out); replace HB := ak (below_step (bl HB.out) hb); clear hb hbox hg; obtain ⟨hcz16_0, hcz16_1, hcz16_2, hcz16_3, hfz16_0, hfz16_1, hfz16_2, hfz16_3⟩ := b4 BK267.out) | ((with_reducible refine gc 69 ?_); refine gL 69 Tryz.func69 (some 5) #[.string a0_0] ?_; (with_reducible refine (impl_isToken.calls a0_0 false _ A2.out).mono ?_); rintro e w17 ⟨rfl, hb⟩; refine ⟨_, rfl, ?_⟩; replace BK267 := ak (blk_below (bk BK267.out) hb); replace HB := ak (below_step (bl1 HB.out GE267.out) hb); clear hb))
  go_ret
  exact ⟨by first | rfl | (simp [errW_none, errW_some] <;> rfl) | (simp [*, errW_none, errW_some] <;> rfl), bl1 HB.out GE267.out⟩

-- NOT PRINTED: function 31 (impl_TakeRequest_1)

end Go.Proofs.YthneflfbafieeaaGreatDoor.PFnTorn
