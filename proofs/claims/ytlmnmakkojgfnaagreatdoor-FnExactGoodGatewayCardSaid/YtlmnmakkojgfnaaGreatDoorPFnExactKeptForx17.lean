-- written by a program of this session (wip/tool)
import Derived.Test.YtlmnmakkojgfnaaGreatDoorPFnExactKeptForx0
import Derived.Test.YtlmnmakkojgfnaaGreatDoorPFnExactKeptForx12
import Derived.Test.YtlmnmakkojgfnaaGreatDoorPFnExactKeptForx13
import Derived.Test.YtlmnmakkojgfnaaGreatDoorPFnExactKeptForx14
import Derived.Test.YtlmnmakkojgfnaaGreatDoorPFnExactKeptForx15
import Derived.Test.YtlmnmakkojgfnaaGreatDoorPFnExactKeptForx16
import Derived.Test.YtlmnmakkojgfnaaGreatDoorVOwn0
import Derived.Test.YtlmnmakkojgfnaaGreatDoorVOwnOpen
import Derived.WalkKit
import Derived.BigCall
import Derived.Test.YtlmnmakkojgfnaaGreatDoorOwnTr
import Derived.Test.YtlmnmakkojgfnaaGreatDoorVOwnShort
import Derived.Test.YtlmnmakkojgfnaaGreatDoorOwnSq
import Derived.Test.YtlmnmakkojgfnaaGreatDoorOwnIt
namespace Go.Proofs.YtlmnmakkojgfnaaGreatDoor.PFnExactKeptFor
open Go.RowKit Go.Proofs.YtlmnmakkojgfnaaGreatDoorW.PrintWords Go.Proofs.YtlmnmakkojgfnaaGreatDoorW.PrintLast Go.Proofs.YtlmnmakkojgfnaaGreatDoorW.PrintMore Go.Shelf Go.Proofs.YtlmnmakkojgfnaaGreatDoorOwn
attribute [local go_sem] max2_int min2_int max_two min_two max_three min_three max_four min_four   -- for this text's walks alone
set_option linter.unusedVariables false
set_option linter.unusedSimpArgs false

/-! ### impl_lengthOf: function 189 -/
mutual
def impl_lengthOf.l0 : Nat → Int → Bool → List ByteArray → Int → Int → Option (Int × Bool × Bool)
 | 0, _, _, _, _, _ => none
 | k + 1, x5, x6, x16, x17, x18 => if x18 < x17 then (if 0 ≤ x18 then (if x18 < (x16.length : Int) then ((impl_listOf.f k (rdOf ByteArray.empty x16 x18)).bind fun bt427 => (if bt427.2 = true then (impl_lengthOf.j1 k x5 x6 bt427.1 x16 x17 x18 ((bt427.1.length : Int) == 0)) else (impl_lengthOf.j1 k x5 x6 bt427.1 x16 x17 x18 true))) else (none)) else (none)) else (some (x5, x6, true))
def impl_lengthOf.j1 : Nat → Int → Bool → List ByteArray → List ByteArray → Int → Int → Bool → Option (Int × Bool × Bool)
 | 0, _, _, _, _, _, _, _ => none
 | k + 1, x5, x6, x9, x16, x17, x18, x33 => if x33 = true then (some (0, false, false)) else (impl_lengthOf.l1 k x5 x6 x16 x17 x18 x9 (x9.length : Int) 0)
def impl_lengthOf.l1 : Nat → Int → Bool → List ByteArray → Int → Int → List ByteArray → Int → Int → Option (Int × Bool × Bool)
 | 0, _, _, _, _, _, _, _, _ => none
 | k + 1, x5, x6, x16, x17, x18, x34, x35, x36 => if x36 < x35 then (if 0 ≤ x36 then (if x36 < (x34.length : Int) then ((strconv_Atoi.f (rdOf ByteArray.empty x34 x36)).bind fun bt432 => (if bt432.2.isNone = true then (if ((rdOf ByteArray.empty x34 x36).size : Int) > 9 then (some (0, false, false)) else ((impl_areBytes_126.f (rdOf ByteArray.empty x34 x36)).bind fun t435 => (if t435 = true then (if x6 = true then (if bt432.1 = x5 then (impl_lengthOf.l1 k bt432.1 true x16 x17 x18 x34 x35 (wrap64 (x36 + 1))) else (some (0, false, false))) else (impl_lengthOf.l1 k bt432.1 true x16 x17 x18 x34 x35 (wrap64 (x36 + 1)))) else (some (0, false, false))))) else (some (0, false, false)))) else (none)) else (none)) else (impl_lengthOf.l0 k x5 x6 x16 x17 (wrap64 (x18 + 1)))
end
def impl_lengthOf.f (k : Nat) (l0 : List (S105)) : Option (Int × Bool × Bool) := (impl_valuesOf.f k l0 (⟨#[99, 111, 110, 116, 101, 110, 116, 45, 108, 101, 110, 103, 116, 104]⟩ : ByteArray)).bind fun t423 => (impl_lengthOf.l0 k 0 false t423 (t423.length : Int) 0)
theorem impl_lengthOf.mono_l : ∀ k, (∀ y0 y1 y2 y3 y4, LeO (impl_lengthOf.l0 k y0 y1 y2 y3 y4) (impl_lengthOf.l0 (k + 1) y0 y1 y2 y3 y4)) ∧ (∀ y0 y1 y2 y3 y4 y5 y6, LeO (impl_lengthOf.j1 k y0 y1 y2 y3 y4 y5 y6) (impl_lengthOf.j1 (k + 1) y0 y1 y2 y3 y4 y5 y6)) ∧ (∀ y0 y1 y2 y3 y4 y5 y6 y7, LeO (impl_lengthOf.l1 k y0 y1 y2 y3 y4 y5 y6 y7) (impl_lengthOf.l1 (k + 1) y0 y1 y2 y3 y4 y5 y6 y7))
 | 0 => ⟨fun _ _ _ _ _ r h => by simp [impl_lengthOf.l0] at h, fun _ _ _ _ _ _ _ r h => by simp [impl_lengthOf.j1] at h, fun _ _ _ _ _ _ _ _ r h => by simp [impl_lengthOf.l1] at h⟩
 | k + 1 => by
  obtain ⟨ih0, ih1, ih2⟩ := impl_lengthOf.mono_l k
  refine ⟨?_, ?_, ?_⟩
  ·intro y0 y1 y2 y3 y4
   unfold impl_lengthOf.l0
   repeat' with_reducible first | exact ih0 _ _ _ _ _ | exact ih1 _ _ _ _ _ _ _ | exact ih2 _ _ _ _ _ _ _ _ | exact impl_listOf.mono _ _ | exact impl_valuesOf.mono _ _ _ | exact LeO.refl _ | exact LeO.none _ | refine LeO.ite ?_ ?_ | refine LeO.bind ?_ (fun _ => ?_)
  ·intro y0 y1 y2 y3 y4 y5 y6
   unfold impl_lengthOf.j1
   repeat' with_reducible first | exact ih0 _ _ _ _ _ | exact ih1 _ _ _ _ _ _ _ | exact ih2 _ _ _ _ _ _ _ _ | exact impl_listOf.mono _ _ | exact impl_valuesOf.mono _ _ _ | exact LeO.refl _ | exact LeO.none _ | refine LeO.ite ?_ ?_ | refine LeO.bind ?_ (fun _ => ?_)
  ·intro y0 y1 y2 y3 y4 y5 y6 y7
   unfold impl_lengthOf.l1
   repeat' with_reducible first | exact ih0 _ _ _ _ _ | exact ih1 _ _ _ _ _ _ _ | exact ih2 _ _ _ _ _ _ _ _ | exact impl_listOf.mono _ _ | exact impl_valuesOf.mono _ _ _ | exact LeO.refl _ | exact LeO.none _ | refine LeO.ite ?_ ?_ | refine LeO.bind ?_ (fun _ => ?_)
theorem impl_lengthOf.mono : ∀ a0 k, LeO (impl_lengthOf.f k a0) (impl_lengthOf.f (k + 1) a0) := by
 intro a0 k
 obtain ⟨ih0, ih1, ih2⟩ := impl_lengthOf.mono_l k
 unfold impl_lengthOf.f
 repeat' with_reducible first | exact ih0 _ _ _ _ _ | exact ih1 _ _ _ _ _ _ _ | exact ih2 _ _ _ _ _ _ _ _ | exact impl_listOf.mono _ _ | exact impl_valuesOf.mono _ _ _ | exact LeO.refl _ | exact LeO.none _ | refine LeO.ite ?_ ?_ | refine LeO.bind ?_ (fun _ => ?_)
set_option maxHeartbeats 8000000 in
set_option maxRecDepth 100000 in
theorem impl_lengthOf.calls (k : Nat) (A0 : Option Addr) (c0 : Nat) (l0 : List (S105)) (r1 : Int) (r2 : Bool) (r3 : Bool) (w : World) (hr0 : Kd.C k105 w A0 l0.length l0) (hc0 : l0.length ≤ c0) (h : impl_lengthOf.f k l0 = some (r1, r2, r3)) (ht : Glob w) :
  Calls Tryz.prog 189 #[.slice A0 l0.length c0] w fun e w' => e = .returned (.tuple #[.int .i64 r1, .bool r2, .bool r3]) ∧ Below w.heap.size w w' := by
 have hu176 := Tryz.underlying176
 have HR0 := ak hr0
 have HC0 := ak hc0
 clear hr0 hc0
 have HT := ak ht
 clear ht
 have HB := ak (Below.refl w.heap.size w)
 unfold impl_lengthOf.f at h; have H := h
 clear h
 replace H := bs H
 obtain ⟨t423, A2, H⟩ := H
 try dsimp only at H
 have H' := ak H
 clear H
 go_enter Tryz.func189, Tryz.ntmps189
 go_wp2_with (first | ((with_reducible refine gc 116 ?_); refine gL 116 Tryz.func116 (some 16) #[.slice A0 l0.length c0, .string (⟨#[99, 111, 110, 116, 101, 110, 116, 45, 108, 101, 110, 103, 116, 104]⟩ : ByteArray)] ?_; (with_reducible refine (impl_valuesOf.calls k _ _ l0 (⟨#[99, 111, 110, 116, 101, 110, 116, 45, 108, 101, 110, 103, 116, 104]⟩ : ByteArray) t423 _ ?side1 ?side2 A2.out).mono ?_); (case side1 => exact kc HR0.out); (case side2 => exact HC0.out); rintro e w3 ⟨v424, rfl, ho0, hb⟩; refine ⟨_, rfl, ?_⟩; have HO425 := ak (Kd.R_lower ho0 (below_size (bl HB.out))); replace HB := ak (below_step (bl HB.out) hb); clear hb ho0; obtain ⟨Ao4, co4, eo4⟩ := Kd.R_slice HO425.out; subst eo4))
 go_loopg [5, 6, 18] k (fun kq v5 v6 v18 w' => ∃ (x5_1 : Int) (x6_1 : Bool) (x18_1 : Int), v5 = .int .i64 x5_1 ∧ v6 = .bool x6_1 ∧ v18 = .int .i64 x18_1 ∧ Aside0 (impl_lengthOf.l0 kq x5_1 x6_1 t423 (t423.length : Int) x18_1 = some (r1, r2, r3)) ∧ Aside0 (kq ≤ k) ∧ Aside0 (Kd.R Kd.string 9 w' w.heap.size (fun _ => True) (.slice Ao4 t423.length co4) t423) ∧ Aside0 (Below w.heap.size w w'))
 case atStart => exact ⟨(0), (false), (0), (by first | rfl | (simp; done) | (simp [*]; done)), (by first | rfl | (simp; done) | (simp [*]; done)), (by first | rfl | (simp; done) | (simp [*]; done)), H', ⟨Nat.le_refl _⟩, ⟨kr HO425.out⟩, ⟨bl HB.out⟩⟩
 case round =>
  clear H'
  try clear c1
  try clear p2
  obtain ⟨x5_1, x6_1, x18_1, rfl, rfl, rfl, HA, HK1, HO_16, HB⟩ := hrel
  cases gk with
  | zero => exact absurd HA.out (by simp [impl_lengthOf.l0])
  | succ k1 =>
   have H := HA.out
   clear HA
   simp only [impl_lengthOf.l0] at H
   by_cases c5 : x18_1 < (t423.length : Int)
   ·rw [if_pos c5] at H
    have c5b0 := decide_eq_true c5
    clear c5
    by_cases c6 : 0 ≤ x18_1
    ·rw [if_pos c6] at H
     have c6b0 := decide_eq_true c6
     clear c6
     by_cases c7 : x18_1 < (t423.length : Int)
     ·rw [if_pos c7] at H
      have c7b0 := decide_eq_true c7
      clear c7
      replace H := bs H
      obtain ⟨⟨t427, t428⟩, A8, H⟩ := H
      try dsimp only at H
      have HC9 := ak H
      clear H
      have p426 : 0 ≤ (x18_1 : Int) := od
      have q426 : x18_1 < (t423.length : Int) := od
      obtain ⟨ad426, e426, hx426_0⟩ := Kd.at_string (Kd.R_reads' HO_16.out).2.2 x18_1 p426 q426
      cases e426
      replace p426 := eq_true p426
      replace q426 := eq_true q426
      go_upto_region 6 with (first | ((with_reducible refine gc 143 ?_); refine gL 143 Tryz.func143 (some 24) #[.string (rdOf ByteArray.empty t423 x18_1)] ?_; (with_reducible refine (impl_listOf.calls k1 (rdOf ByteArray.empty t423 x18_1) t427 t428 _ A8.out).mono ?_); rintro e w10 ⟨v429, rfl, ho0, hb⟩; refine ⟨_, rfl, ?_⟩; have HO430 := ak (Kd.R_lower (Kd.R_new' ho0 (Kd.R_lt (kr HO_16.out))) (below_size (bl HB.out))); replace HO_16 := ak (Kd.R_elder' (kr HO_16.out) (Kd.R_base ho0) hb); replace HB := ak (below_step (bl HB.out) hb); clear hb ho0))
      (try simp only [Act.put, List.setIfInBounds_toArray, List.set_cons_zero, List.set_cons_succ])
      go_cut [33] (fun v33 wc => ∃ (kq : Nat) (x33_8 : Bool), v33 = .bool x33_8 ∧ Aside0 (impl_lengthOf.j1 kq x5_1 x6_1 t427 t423 (t423.length : Int) x18_1 x33_8 = some (r1, r2, r3)) ∧ Aside0 (kq ≤ k1) ∧ Aside0 (Kd.R Kd.string 9 wc w.heap.size (fun k_ => some k_ ≠ ((.slice (some ad426) t423.length co4) : Value).ownBlock) v429 t427) ∧ Aside0 (Kd.R Kd.string 9 wc w.heap.size (fun k_ => some k_ ≠ (v429 : Value).ownBlock) (.slice (some ad426) t423.length co4) t423) ∧ Aside0 (Below w.heap.size w wc))
      case first =>
       have H := HC9.out
       clear HC9
       by_cases c11 : t428 = true
       ·subst c11
        rw [if_pos rfl] at H
        have H' := ak H
        clear H
        obtain ⟨Ao12, co12, eo12⟩ := Kd.R_slice HO430.out
        subst eo12
        go_wp2
        go_meet
        case rel => exact ⟨_, (((t427.length : Int) == 0)), (by first | rfl | (simp; done) | (simp [*]; done)), H', ⟨by have := HK1.out; first | omega | exact Nat.le_refl _⟩, ⟨by (with_reducible repeat (first | apply Kd.R_alloc | apply Kd.R_drewN | apply Kd.R_drew)); exact Kd.R_mono HO430.out (fun _ hk => hk.2)⟩, ⟨by (with_reducible repeat (first | apply Kd.R_alloc | apply Kd.R_drewN | apply Kd.R_drew)); exact Kd.R_mono HO_16.out (fun _ hk => hk.2)⟩, ⟨bl HB.out⟩⟩
       ·replace c11 := Bool.eq_false_iff.mpr c11
        subst c11
        rw [if_neg ff] at H
        have H' := ak H
        clear H
        go_wp2
        go_meet
        case rel => exact ⟨_, (true), (by first | rfl | (simp; done) | (simp [*]; done)), H', ⟨by have := HK1.out; first | omega | exact Nat.le_refl _⟩, ⟨by (with_reducible repeat (first | apply Kd.R_alloc | apply Kd.R_drewN | apply Kd.R_drew)); exact Kd.R_mono HO430.out (fun _ hk => hk.2)⟩, ⟨by (with_reducible repeat (first | apply Kd.R_alloc | apply Kd.R_drewN | apply Kd.R_drew)); exact Kd.R_mono HO_16.out (fun _ hk => hk.2)⟩, ⟨bl HB.out⟩⟩
      case rest =>
       clear HC9
       try clear c1
       try clear p2
       try clear p4
       try clear q4
       try clear hx4
       try clear c5
       try clear c5b0
       try clear c6
       try clear c6b0
       try clear c7
       try clear c7b0
       try clear c11
       try clear hx426_0
       try clear p2
       try clear p426
       try clear q426
       obtain ⟨kq, x33_8, rfl, HA, HJ8, HO_9, HO_16, HB⟩ := hcut
       cases kq with
       | zero => exact absurd HA.out (by simp [impl_lengthOf.j1])
       | succ kj8 =>
        have H := HA.out
        clear HA
        simp only [impl_lengthOf.j1] at H
        by_cases c13 : x33_8 = true
        ·subst c13
         rw [if_pos rfl] at H
         simp only [Option.some.injEq, Prod.mk.injEq] at H
         obtain ⟨rfl, rfl, rfl⟩ := H
         go_wp2
         go_ret3
         exact ⟨by first | rfl | (simp [errW_none, errW_some, errV_none, errV_some] <;> rfl) | (simp [*, errW_none, errW_some] <;> rfl), bl HB.out⟩
        ·replace c13 := Bool.eq_false_iff.mpr c13
         subst c13
         rw [if_neg ff] at H
         have H' := ak H
         clear H
         obtain ⟨Ao14, co14, eo14⟩ := Kd.R_slice HO_9.out
         subst eo14
         go_wp2
         go_loopg [5, 6, 36] kj8 (fun kq v5 v6 v36 w' => ∃ (x5_3 : Int) (x6_3 : Bool) (x36_3 : Int), v5 = .int .i64 x5_3 ∧ v6 = .bool x6_3 ∧ v36 = .int .i64 x36_3 ∧ Aside0 (impl_lengthOf.l1 kq x5_3 x6_3 t423 (t423.length : Int) x18_1 t427 (t427.length : Int) x36_3 = some (r1, r2, r3)) ∧ Aside0 (kq ≤ kj8) ∧ Aside0 (Kd.R Kd.string 9 w' w.heap.size (fun k_ => some k_ ≠ ((.slice Ao14 t427.length co14) : Value).ownBlock) (.slice (some ad426) t423.length co4) t423) ∧ Aside0 (Kd.R Kd.string 9 w' w.heap.size (fun k_ => some k_ ≠ ((.slice (some ad426) t423.length co4) : Value).ownBlock) (.slice Ao14 t427.length co14) t427) ∧ Aside0 (Below w.heap.size w w'))
         case atStart => exact ⟨(x5_1), (x6_1), (0), (by first | rfl | (simp; done) | (simp [*]; done)), (by first | rfl | (simp; done) | (simp [*]; done)), (by first | rfl | (simp; done) | (simp [*]; done)), H', ⟨Nat.le_refl _⟩, ⟨kr HO_16.out⟩, ⟨kr HO_9.out⟩, ⟨bl HB.out⟩⟩
         case round =>
          clear H'
          try clear c1
          try clear p2
          try clear p4
          try clear q4
          try clear hx4
          try clear c5
          try clear c5b0
          try clear c6
          try clear c6b0
          try clear c7
          try clear c7b0
          try clear c11
          try clear c13
          try clear c14
          try clear hx426_0
          try clear p2
          try clear p4
          try clear p426
          try clear q4
          try clear q426
          obtain ⟨x5_3, x6_3, x36_3, rfl, rfl, rfl, HA, HK3, HO_16, HO_34, HB⟩ := hrel
          cases gk with
          | zero => exact absurd HA.out (by simp [impl_lengthOf.l1])
          | succ k3 =>
           have H := HA.out
           clear HA
           simp only [impl_lengthOf.l1] at H
           by_cases c15 : x36_3 < (t427.length : Int)
           ·rw [if_pos c15] at H
            have c15b0 := decide_eq_true c15
            clear c15
            by_cases c16 : 0 ≤ x36_3
            ·rw [if_pos c16] at H
             have c16b0 := decide_eq_true c16
             clear c16
             by_cases c17 : x36_3 < (t427.length : Int)
             ·rw [if_pos c17] at H
              have c17b0 := decide_eq_true c17
              clear c17
              replace H := bs H
              obtain ⟨⟨t432, t433⟩, A18, H⟩ := H
              try dsimp only at H
              rcases t433 with _ | q434
              ·rw [if_pos (show (none : Option Int).isNone = true by rfl)] at H
               try simp only [errW_none, errW_some, errV_none, errV_some]
               by_cases c19 : ((rdOf ByteArray.empty t427 x36_3).size : Int) > 9
               ·rw [if_pos c19] at H
                have c19b0 : decide (9 < ((rdOf ByteArray.empty t427 x36_3).size : Int)) = true := decide_eq_true c19
                have c19b1 : decide (9 < (rdOf ByteArray.empty t427 x36_3).size) = true := decide_eq_true (by omega)
                clear c19
                simp only [Option.some.injEq, Prod.mk.injEq] at H
                obtain ⟨rfl, rfl, rfl⟩ := H
                have p431 : 0 ≤ (x36_3 : Int) := od
                have q431 : x36_3 < (t427.length : Int) := od
                obtain ⟨ad431, e431, hx431_0⟩ := Kd.at_string (Kd.R_reads' HO_34.out).2.2 x36_3 p431 q431
                cases e431
                replace p431 := eq_true p431
                replace q431 := eq_true q431
                go_wp2_with (first | ((with_reducible refine gc 218 ?_); refine gL 218 Tryz.func218 (some 42) #[.string (rdOf ByteArray.empty t427 x36_3)] ?_; (with_reducible refine (strconv_Atoi.calls (rdOf ByteArray.empty t427 x36_3) t432 none _ A18.out (globg HT.out (bl HB.out))).mono ?_); rintro e w20 ⟨tp_, p_, rfl, hb⟩; refine ⟨_, rfl, ?_⟩; replace HO_16 := ak (Kd.R_below (kr HO_16.out) hb); replace HO_34 := ak (Kd.R_below (kr HO_34.out) hb); replace HB := ak (below_step (bl HB.out) hb); clear hb; (try simp only [errW_none, errW_some, errV_none, errV_some])))
                go_ret3
                exact ⟨by first | rfl | (simp [errW_none, errW_some, errV_none, errV_some] <;> rfl) | (simp [*, errW_none, errW_some] <;> rfl), bl HB.out⟩
               ·rw [if_neg c19] at H
                have c19b0 : decide (9 < ((rdOf ByteArray.empty t427 x36_3).size : Int)) = false := decide_eq_false c19
                have c19b1 : decide (9 < (rdOf ByteArray.empty t427 x36_3).size) = false := decide_eq_false (by omega)
                clear c19
                replace H := bs H
                obtain ⟨t435, A21, H⟩ := H
                try dsimp only at H
                by_cases c22 : t435 = true
                ·subst c22
                 rw [if_pos rfl] at H
                 by_cases c23 : x6_3 = true
                 ·subst c23
                  rw [if_pos rfl] at H
                  by_cases c24 : t432 = x5_3
                  ·rw [if_pos c24] at H
                   have c24b0 : (t432 == x5_3) = true := beq_iff_eq.mpr c24
                   have c24b1 : (t432 != x5_3) = false := bne_eq_false_iff_eq.mpr c24
                   clear c24
                   have H' := ak H
                   clear H
                   have p431 : 0 ≤ (x36_3 : Int) := od
                   have q431 : x36_3 < (t427.length : Int) := od
                   obtain ⟨ad431, e431, hx431_0⟩ := Kd.at_string (Kd.R_reads' HO_34.out).2.2 x36_3 p431 q431
                   cases e431
                   replace p431 := eq_true p431
                   replace q431 := eq_true q431
                   go_wp2_with (first | ((with_reducible refine gc 218 ?_); refine gL 218 Tryz.func218 (some 42) #[.string (rdOf ByteArray.empty t427 x36_3)] ?_; (with_reducible refine (strconv_Atoi.calls (rdOf ByteArray.empty t427 x36_3) t432 none _ A18.out (globg HT.out (bl HB.out))).mono ?_); rintro e w25 ⟨tp_, p_, rfl, hb⟩; refine ⟨_, rfl, ?_⟩; replace HO_16 := ak (Kd.R_below (kr HO_16.out) hb); replace HO_34 := ak (Kd.R_below (kr HO_34.out) hb); replace HB := ak (below_step (bl HB.out) hb); clear hb; (try simp only [errW_none, errW_some, errV_none, errV_some])) | (go_at_call 79; (with_reducible refine (impl_areBytes_126.calls (rdOf ByteArray.empty t427 x36_3)  true _ A21.out).mono ?_); rintro e w26 ⟨rfl, hb⟩; replace HO_16 := ak (Kd.R_below (kr HO_16.out) hb); replace HO_34 := ak (Kd.R_below (kr HO_34.out) hb); replace HB := ak (below_step (bl HB.out) hb); clear hb))
                   go_roundg k3
                   case measure => have := HK1.out; have := HJ8.out; have := HK3.out; omega
                   case rel => exact ⟨(t432), (true), (wrap64 (x36_3 + 1)), (by first | rfl | (simp; done) | (simp [*]; done)), (by first | rfl | (simp; done) | (simp [*]; done)), (by first | rfl | (simp; done) | (simp [*]; done)), H', ⟨by have := HK1.out; have := HJ8.out; have := HK3.out; omega⟩, ⟨kr HO_16.out⟩, ⟨kr HO_34.out⟩, ⟨bl HB.out⟩⟩
                  ·rw [if_neg c24] at H
                   have c24b0 : (t432 == x5_3) = false := beq_eq_false_iff_ne.mpr c24
                   have c24b1 : (t432 != x5_3) = true := bne_iff_ne.mpr c24
                   simp only [Option.some.injEq, Prod.mk.injEq] at H
                   obtain ⟨rfl, rfl, rfl⟩ := H
                   have p431 : 0 ≤ (x36_3 : Int) := od
                   have q431 : x36_3 < (t427.length : Int) := od
                   obtain ⟨ad431, e431, hx431_0⟩ := Kd.at_string (Kd.R_reads' HO_34.out).2.2 x36_3 p431 q431
                   cases e431
                   replace p431 := eq_true p431
                   replace q431 := eq_true q431
                   go_wp2_with (first | ((with_reducible refine gc 218 ?_); refine gL 218 Tryz.func218 (some 42) #[.string (rdOf ByteArray.empty t427 x36_3)] ?_; (with_reducible refine (strconv_Atoi.calls (rdOf ByteArray.empty t427 x36_3) t432 none _ A18.out (globg HT.out (bl HB.out))).mono ?_); rintro e w27 ⟨tp_, p_, rfl, hb⟩; refine ⟨_, rfl, ?_⟩; replace HO_16 := ak (Kd.R_below (kr HO_16.out) hb); replace HO_34 := ak (Kd.R_below (kr HO_34.out) hb); replace HB := ak (below_step (bl HB.out) hb); clear hb; (try simp only [errW_none, errW_some, errV_none, errV_some])) | (go_at_call 79; (with_reducible refine (impl_areBytes_126.calls (rdOf ByteArray.empty t427 x36_3)  true _ A21.out).mono ?_); rintro e w28 ⟨rfl, hb⟩; replace HO_16 := ak (Kd.R_below (kr HO_16.out) hb); replace HO_34 := ak (Kd.R_below (kr HO_34.out) hb); replace HB := ak (below_step (bl HB.out) hb); clear hb))
                   go_ret3
                   exact ⟨by first | rfl | (simp [errW_none, errW_some, errV_none, errV_some] <;> rfl) | (simp [*, errW_none, errW_some] <;> rfl), bl HB.out⟩
                 ·replace c23 := Bool.eq_false_iff.mpr c23
                  subst c23
                  rw [if_neg ff] at H
                  have H' := ak H
                  clear H
                  have p431 : 0 ≤ (x36_3 : Int) := od
                  have q431 : x36_3 < (t427.length : Int) := od
                  obtain ⟨ad431, e431, hx431_0⟩ := Kd.at_string (Kd.R_reads' HO_34.out).2.2 x36_3 p431 q431
                  cases e431
                  replace p431 := eq_true p431
                  replace q431 := eq_true q431
                  go_wp2_with (first | ((with_reducible refine gc 218 ?_); refine gL 218 Tryz.func218 (some 42) #[.string (rdOf ByteArray.empty t427 x36_3)] ?_; (with_reducible refine (strconv_Atoi.calls (rdOf ByteArray.empty t427 x36_3) t432 none _ A18.out (globg HT.out (bl HB.out))).mono ?_); rintro e w29 ⟨tp_, p_, rfl, hb⟩; refine ⟨_, rfl, ?_⟩; replace HO_16 := ak (Kd.R_below (kr HO_16.out) hb); replace HO_34 := ak (Kd.R_below (kr HO_34.out) hb); replace HB := ak (below_step (bl HB.out) hb); clear hb; (try simp only [errW_none, errW_some, errV_none, errV_some])) | (go_at_call 79; (with_reducible refine (impl_areBytes_126.calls (rdOf ByteArray.empty t427 x36_3)  true _ A21.out).mono ?_); rintro e w30 ⟨rfl, hb⟩; replace HO_16 := ak (Kd.R_below (kr HO_16.out) hb); replace HO_34 := ak (Kd.R_below (kr HO_34.out) hb); replace HB := ak (below_step (bl HB.out) hb); clear hb))
                  go_roundg k3
                  case measure => have := HK1.out; have := HJ8.out; have := HK3.out; omega
                  case rel => exact ⟨(t432), (true), (wrap64 (x36_3 + 1)), (by first | rfl | (simp; done) | (simp [*]; done)), (by first | rfl | (simp; done) | (simp [*]; done)), (by first | rfl | (simp; done) | (simp [*]; done)), H', ⟨by have := HK1.out; have := HJ8.out; have := HK3.out; omega⟩, ⟨kr HO_16.out⟩, ⟨kr HO_34.out⟩, ⟨bl HB.out⟩⟩
                ·replace c22 := Bool.eq_false_iff.mpr c22
                 subst c22
                 rw [if_neg ff] at H
                 simp only [Option.some.injEq, Prod.mk.injEq] at H
                 obtain ⟨rfl, rfl, rfl⟩ := H
                 have p431 : 0 ≤ (x36_3 : Int) := od
                 have q431 : x36_3 < (t427.length : Int) := od
                 obtain ⟨ad431, e431, hx431_0⟩ := Kd.at_string (Kd.R_reads' HO_34.out).2.2 x36_3 p431 q431
                 cases e431
                 replace p431 := eq_true p431
                 replace q431 := eq_true q431
                 go_wp2_with (first | ((with_reducible refine gc 218 ?_); refine gL 218 Tryz.func218 (some 42) #[.string (rdOf ByteArray.empty t427 x36_3)] ?_; (with_reducible refine (strconv_Atoi.calls (rdOf ByteArray.empty t427 x36_3) t432 none _ A18.out (globg HT.out (bl HB.out))).mono ?_); rintro e w31 ⟨tp_, p_, rfl, hb⟩; refine ⟨_, rfl, ?_⟩; replace HO_16 := ak (Kd.R_below (kr HO_16.out) hb); replace HO_34 := ak (Kd.R_below (kr HO_34.out) hb); replace HB := ak (below_step (bl HB.out) hb); clear hb; (try simp only [errW_none, errW_some, errV_none, errV_some])) | (go_at_call 79; (with_reducible refine (impl_areBytes_126.calls (rdOf ByteArray.empty t427 x36_3)  false _ A21.out).mono ?_); rintro e w32 ⟨rfl, hb⟩; replace HO_16 := ak (Kd.R_below (kr HO_16.out) hb); replace HO_34 := ak (Kd.R_below (kr HO_34.out) hb); replace HB := ak (below_step (bl HB.out) hb); clear hb))
                 go_ret3
                 exact ⟨by first | rfl | (simp [errW_none, errW_some, errV_none, errV_some] <;> rfl) | (simp [*, errW_none, errW_some] <;> rfl), bl HB.out⟩
              ·rw [if_neg (show ¬ (some q434).isNone = true by simp)] at H
               try simp only [errW_none, errW_some, errV_none, errV_some]
               simp only [Option.some.injEq, Prod.mk.injEq] at H
               obtain ⟨rfl, rfl, rfl⟩ := H
               have p431 : 0 ≤ (x36_3 : Int) := od
               have q431 : x36_3 < (t427.length : Int) := od
               obtain ⟨ad431, e431, hx431_0⟩ := Kd.at_string (Kd.R_reads' HO_34.out).2.2 x36_3 p431 q431
               cases e431
               replace p431 := eq_true p431
               replace q431 := eq_true q431
               go_wp2_with (first | ((with_reducible refine gc 218 ?_); refine gL 218 Tryz.func218 (some 42) #[.string (rdOf ByteArray.empty t427 x36_3)] ?_; (with_reducible refine (strconv_Atoi.calls (rdOf ByteArray.empty t427 x36_3) t432 (some q434) _ A18.out (globg HT.out (bl HB.out))).mono ?_); rintro e w33 ⟨tp_, p_, rfl, hb⟩; refine ⟨_, rfl, ?_⟩; replace HO_16 := ak (Kd.R_below (kr HO_16.out) hb); replace HO_34 := ak (Kd.R_below (kr HO_34.out) hb); replace HB := ak (below_step (bl HB.out) hb); clear hb; (try simp only [errW_none, errW_some, errV_none, errV_some])))
               go_ret3
               exact ⟨by first | rfl | (simp [errW_none, errW_some, errV_none, errV_some] <;> rfl) | (simp [*, errW_none, errW_some] <;> rfl), bl HB.out⟩
             ·rw [if_neg c17] at H
              exact absurd H (by simp)
            ·rw [if_neg c16] at H
             exact absurd H (by simp)
           ·rw [if_neg c15] at H
            have c15b0 := decide_eq_false c15
            clear c15
            have H' := ak H
            clear H
            go_wp2
            go_roundg k3
            case measure => have := HK1.out; have := HJ8.out; have := HK3.out; omega
            case rel => exact ⟨(x5_3), (x6_3), (wrap64 (x18_1 + 1)), (by first | rfl | (simp; done) | (simp [*]; done)), (by first | rfl | (simp; done) | (simp [*]; done)), (by first | rfl | (simp; done) | (simp [*]; done)), H', ⟨by have := HK1.out; have := HJ8.out; have := HK3.out; omega⟩, ⟨by (with_reducible repeat (first | apply Kd.R_alloc | apply Kd.R_drewN | apply Kd.R_drew)); exact Kd.R_mono HO_16.out (fun _ hk => trivial)⟩, ⟨bl HB.out⟩⟩
     ·rw [if_neg c7] at H
      exact absurd H (by simp)
    ·rw [if_neg c6] at H
     exact absurd H (by simp)
   ·rw [if_neg c5] at H
    have c5b0 := decide_eq_false c5
    clear c5
    simp only [Option.some.injEq, Prod.mk.injEq] at H
    obtain ⟨rfl, rfl, rfl⟩ := H
    go_wp2
    go_ret3
    exact ⟨by first | rfl | (simp [errW_none, errW_some, errV_none, errV_some] <;> rfl) | (simp [*, errW_none, errW_some] <;> rfl), bl HB.out⟩

/-! ### impl_isFramed: function 159 -/
def impl_isFramed.f (k : Nat) (l0 : List (S105)) (a1 : ByteArray) : Option (Bool) := (impl_lengthOf.f k l0).bind fun bt436 => (if bt436.2.2 = true then ((impl_valuesOf.f k l0 (⟨#[116, 114, 97, 110, 115, 102, 101, 114, 45, 101, 110, 99, 111, 100, 105, 110, 103]⟩ : ByteArray)).bind fun t439 => (if (t439.length : Int) = 0 then (if bt436.2.1 = true then (if bt436.1 = (a1.size : Int) then (some true) else (some false)) else (some (a1.toList == ([] : List UInt8)))) else (some false))) else (some false))
theorem impl_isFramed.mono : ∀ a0 a1 k, LeO (impl_isFramed.f k a0 a1) (impl_isFramed.f (k + 1) a0 a1) := by
 intro a0 a1 k
 unfold impl_isFramed.f
 repeat' with_reducible first | exact impl_lengthOf.mono _ _ | exact impl_valuesOf.mono _ _ _ | exact LeO.refl _ | exact LeO.none _ | refine LeO.ite ?_ ?_ | refine LeO.bind ?_ (fun _ => ?_)
set_option maxHeartbeats 8000000 in
set_option maxRecDepth 100000 in
theorem impl_isFramed.calls (k : Nat) (A0 : Option Addr) (c0 : Nat) (l0 : List (S105)) (a1 : ByteArray) (r : Bool) (w : World) (hr0 : Kd.C k105 w A0 l0.length l0) (hc0 : l0.length ≤ c0) (h : impl_isFramed.f k l0 a1 = some r) (ht : Glob w) :
  Calls Tryz.prog 159 #[.slice A0 l0.length c0, .string a1] w fun e w' => e = .returned (.bool r) ∧ Below w.heap.size w w' := by
 have HR0 := ak hr0
 have HC0 := ak hc0
 clear hr0 hc0
 have HT := ak ht
 clear ht
 have HB := ak (Below.refl w.heap.size w)
 unfold impl_isFramed.f at h; have H := h
 clear h
 replace H := bs H
 obtain ⟨⟨t436, t437, t438⟩, A3, H⟩ := H
 try dsimp only at H
 by_cases c4 : t438 = true
 ·subst c4
  rw [if_pos rfl] at H
  replace H := bs H
  obtain ⟨t439, A5, H⟩ := H
  try dsimp only at H
  by_cases c6 : (t439.length : Int) = 0
  ·rw [if_pos c6] at H
   have c6b0 : ((t439.length : Int) == 0) = true := beq_iff_eq.mpr c6
   have c6b1 : ((t439.length : Int) != 0) = false := bne_eq_false_iff_eq.mpr c6
   clear c6
   by_cases c7 : t437 = true
   ·subst c7
    rw [if_pos rfl] at H
    by_cases c8 : t436 = (a1.size : Int)
    ·rw [if_pos c8] at H
     have c8b0 : (t436 == (a1.size : Int)) = true := beq_iff_eq.mpr c8
     have c8b1 : (t436 != (a1.size : Int)) = false := bne_eq_false_iff_eq.mpr c8
     clear c8
     obtain rfl := Option.some.inj H
     go_enter Tryz.func159, Tryz.ntmps159
     go_wp2_with (first | ((with_reducible refine gc 189 ?_); refine gL 189 Tryz.func189 (some 10) #[.slice A0 l0.length c0] ?_; (with_reducible refine (impl_lengthOf.calls k _ _ l0 t436 true true _ ?side1 ?side2 A3.out (globg HT.out (bl HB.out))).mono ?_); (case side1 => exact kc HR0.out); (case side2 => exact HC0.out); rintro e w9 ⟨rfl, hb⟩; refine ⟨_, rfl, ?_⟩; replace HB := ak (below_step (bl HB.out) hb); clear hb) | (go_at_call 116; (with_reducible refine (impl_valuesOf.calls k _ _ l0 (⟨#[116, 114, 97, 110, 115, 102, 101, 114, 45, 101, 110, 99, 111, 100, 105, 110, 103]⟩ : ByteArray) t439 _ ?side1 ?side2 A5.out).mono ?_); (case side1 => exact kc (Kd.C_below HR0.out HB.out)); (case side2 => exact HC0.out); rintro e w10 ⟨v440, rfl, ho0, hb⟩; have HO441 := ak (Kd.R_lower ho0 (below_size (bl HB.out))); replace HB := ak (below_step (bl HB.out) hb); clear hb ho0; obtain ⟨Ao11, co11, eo11⟩ := Kd.R_slice HO441.out; subst eo11))
     go_ret
     exact rz (bl HB.out)
    ·rw [if_neg c8] at H
     have c8b0 : (t436 == (a1.size : Int)) = false := beq_eq_false_iff_ne.mpr c8
     have c8b1 : (t436 != (a1.size : Int)) = true := bne_iff_ne.mpr c8
     obtain rfl := Option.some.inj H
     go_enter Tryz.func159, Tryz.ntmps159
     go_wp2_with (first | ((with_reducible refine gc 189 ?_); refine gL 189 Tryz.func189 (some 10) #[.slice A0 l0.length c0] ?_; (with_reducible refine (impl_lengthOf.calls k _ _ l0 t436 true true _ ?side1 ?side2 A3.out (globg HT.out (bl HB.out))).mono ?_); (case side1 => exact kc HR0.out); (case side2 => exact HC0.out); rintro e w12 ⟨rfl, hb⟩; refine ⟨_, rfl, ?_⟩; replace HB := ak (below_step (bl HB.out) hb); clear hb) | (go_at_call 116; (with_reducible refine (impl_valuesOf.calls k _ _ l0 (⟨#[116, 114, 97, 110, 115, 102, 101, 114, 45, 101, 110, 99, 111, 100, 105, 110, 103]⟩ : ByteArray) t439 _ ?side1 ?side2 A5.out).mono ?_); (case side1 => exact kc (Kd.C_below HR0.out HB.out)); (case side2 => exact HC0.out); rintro e w13 ⟨v440, rfl, ho0, hb⟩; have HO441 := ak (Kd.R_lower ho0 (below_size (bl HB.out))); replace HB := ak (below_step (bl HB.out) hb); clear hb ho0; obtain ⟨Ao14, co14, eo14⟩ := Kd.R_slice HO441.out; subst eo14))
     go_ret
     exact rz (bl HB.out)
   ·replace c7 := Bool.eq_false_iff.mpr c7
    subst c7
    rw [if_neg ff] at H
    obtain rfl := Option.some.inj H
    go_enter Tryz.func159, Tryz.ntmps159
    go_wp2_with (first | ((with_reducible refine gc 189 ?_); refine gL 189 Tryz.func189 (some 10) #[.slice A0 l0.length c0] ?_; (with_reducible refine (impl_lengthOf.calls k _ _ l0 t436 false true _ ?side1 ?side2 A3.out (globg HT.out (bl HB.out))).mono ?_); (case side1 => exact kc HR0.out); (case side2 => exact HC0.out); rintro e w15 ⟨rfl, hb⟩; refine ⟨_, rfl, ?_⟩; replace HB := ak (below_step (bl HB.out) hb); clear hb) | (go_at_call 116; (with_reducible refine (impl_valuesOf.calls k _ _ l0 (⟨#[116, 114, 97, 110, 115, 102, 101, 114, 45, 101, 110, 99, 111, 100, 105, 110, 103]⟩ : ByteArray) t439 _ ?side1 ?side2 A5.out).mono ?_); (case side1 => exact kc (Kd.C_below HR0.out HB.out)); (case side2 => exact HC0.out); rintro e w16 ⟨v440, rfl, ho0, hb⟩; have HO441 := ak (Kd.R_lower ho0 (below_size (bl HB.out))); replace HB := ak (below_step (bl HB.out) hb); clear hb ho0; obtain ⟨Ao17, co17, eo17⟩ := Kd.R_slice HO441.out; subst eo17))
    go_ret
    exact rz (bl HB.out)
  ·rw [if_neg c6] at H
   have c6b0 : ((t439.length : Int) == 0) = false := beq_eq_false_iff_ne.mpr c6
   have c6b1 : ((t439.length : Int) != 0) = true := bne_iff_ne.mpr c6
   have c6b2 : ¬ (t439 = []) := fun h_ => c6 (by rw [h_]; rfl)
   obtain rfl := Option.some.inj H
   go_enter Tryz.func159, Tryz.ntmps159
   go_wp2_with (first | ((with_reducible refine gc 189 ?_); refine gL 189 Tryz.func189 (some 10) #[.slice A0 l0.length c0] ?_; (with_reducible refine (impl_lengthOf.calls k _ _ l0 t436 t437 true _ ?side1 ?side2 A3.out (globg HT.out (bl HB.out))).mono ?_); (case side1 => exact kc HR0.out); (case side2 => exact HC0.out); rintro e w18 ⟨rfl, hb⟩; refine ⟨_, rfl, ?_⟩; replace HB := ak (below_step (bl HB.out) hb); clear hb) | (go_at_call 116; (with_reducible refine (impl_valuesOf.calls k _ _ l0 (⟨#[116, 114, 97, 110, 115, 102, 101, 114, 45, 101, 110, 99, 111, 100, 105, 110, 103]⟩ : ByteArray) t439 _ ?side1 ?side2 A5.out).mono ?_); (case side1 => exact kc (Kd.C_below HR0.out HB.out)); (case side2 => exact HC0.out); rintro e w19 ⟨v440, rfl, ho0, hb⟩; have HO441 := ak (Kd.R_lower ho0 (below_size (bl HB.out))); replace HB := ak (below_step (bl HB.out) hb); clear hb ho0; obtain ⟨Ao20, co20, eo20⟩ := Kd.R_slice HO441.out; subst eo20))
   go_ret
   exact rz (bl HB.out)
 ·replace c4 := Bool.eq_false_iff.mpr c4
  subst c4
  rw [if_neg ff] at H
  obtain rfl := Option.some.inj H
  go_enter Tryz.func159, Tryz.ntmps159
  go_wp2_with (first | ((with_reducible refine gc 189 ?_); refine gL 189 Tryz.func189 (some 10) #[.slice A0 l0.length c0] ?_; (with_reducible refine (impl_lengthOf.calls k _ _ l0 t436 t437 false _ ?side1 ?side2 A3.out (globg HT.out (bl HB.out))).mono ?_); (case side1 => exact kc HR0.out); (case side2 => exact HC0.out); rintro e w21 ⟨rfl, hb⟩; refine ⟨_, rfl, ?_⟩; replace HB := ak (below_step (bl HB.out) hb); clear hb))
  go_ret
  exact rz (bl HB.out)

/-! ### impl_isMessage: function 112 -/
def impl_isMessage.f (k : Nat) (a0 : ByteArray) (l1 : List (S105)) (a2 : ByteArray) : Option (Bool) := (impl_areFields.f l1).bind fun t442 => (if t442 = true then (if (a2.size : Int) ≤ 300 then ((impl_headText.f k a0 l1).bind fun t443 => (if (t443.size : Int) ≤ 2000 then ((impl_isFramed.f k l1 a2).bind fun t444 => (some t444)) else (some false))) else (some false)) else (some false))
theorem impl_isMessage.mono : ∀ a0 a1 a2 k, LeO (impl_isMessage.f k a0 a1 a2) (impl_isMessage.f (k + 1) a0 a1 a2) := by
 intro a0 a1 a2 k
 unfold impl_isMessage.f
 repeat' with_reducible first | exact impl_headText.mono _ _ _ | exact impl_isFramed.mono _ _ _ | exact LeO.refl _ | exact LeO.none _ | refine LeO.ite ?_ ?_ | refine LeO.bind ?_ (fun _ => ?_)
set_option maxHeartbeats 8000000 in
set_option maxRecDepth 100000 in
theorem impl_isMessage.calls (k : Nat) (a0 : ByteArray) (A1 : Option Addr) (c1 : Nat) (l1 : List (S105)) (a2 : ByteArray) (r : Bool) (w : World) (hr1 : Kd.C k105 w A1 l1.length l1) (hc1 : l1.length ≤ c1) (h : impl_isMessage.f k a0 l1 a2 = some r) (ht : Glob w) :
  Calls Tryz.prog 112 #[.string a0, .slice A1 l1.length c1, .string a2] w fun e w' => e = .returned (.bool r) ∧ Below w.heap.size w w' := by
 have HR1 := ak hr1
 have HC1 := ak hc1
 clear hr1 hc1
 have HT := ak ht
 clear ht
 have HB := ak (Below.refl w.heap.size w)
 unfold impl_isMessage.f at h; have H := h
 clear h
 replace H := bs H
 obtain ⟨t442, A4, H⟩ := H
 try dsimp only at H
 by_cases c5 : t442 = true
 ·subst c5
  rw [if_pos rfl] at H
  by_cases c6 : (a2.size : Int) ≤ 300
  ·rw [if_pos c6] at H
   have c6b0 := decide_eq_true c6
   have c6b1 : decide (a2.size ≤ 300) = true := decide_eq_true (by omega)
   clear c6
   replace H := bs H
   obtain ⟨t443, A7, H⟩ := H
   try dsimp only at H
   by_cases c8 : (t443.size : Int) ≤ 2000
   ·rw [if_pos c8] at H
    have c8b0 := decide_eq_true c8
    have c8b1 : decide (t443.size ≤ 2000) = true := decide_eq_true (by omega)
    clear c8
    replace H := bs H
    obtain ⟨t444, A9, H⟩ := H
    try dsimp only at H
    obtain rfl := Option.some.inj H
    go_enter Tryz.func112, Tryz.ntmps112
    go_wp2_with (first | ((with_reducible refine gc 96 ?_); refine gL 96 Tryz.func96 (some 8) #[.slice A1 l1.length c1] ?_; (with_reducible refine (impl_areFields.calls _ _ l1 true _ ?side1 ?side2 A4.out).mono ?_); (case side1 => exact kc HR1.out); (case side2 => exact HC1.out); rintro e w10 ⟨rfl, hb⟩; refine ⟨_, rfl, ?_⟩; replace HB := ak (below_step (bl HB.out) hb); clear hb) | (go_at_call 158; (with_reducible refine (impl_headText.calls k a0 _ _ l1 t443 _ ?side1 ?side2 A7.out).mono ?_); (case side1 => exact kc (Kd.C_below HR1.out HB.out)); (case side2 => exact HC1.out); rintro e w11 ⟨rfl, hb⟩; replace HB := ak (below_step (bl HB.out) hb); clear hb) | (go_at_call 159; (with_reducible refine (impl_isFramed.calls k _ _ l1 a2 t444 _ ?side1 ?side2 A9.out (globg HT.out (bl HB.out))).mono ?_); (case side1 => exact kc (Kd.C_below HR1.out HB.out)); (case side2 => exact HC1.out); rintro e w12 ⟨rfl, hb⟩; replace HB := ak (below_step (bl HB.out) hb); clear hb))
    go_ret
    exact rz (bl HB.out)
   ·rw [if_neg c8] at H
    have c8b0 := decide_eq_false c8
    have c8b1 : decide (t443.size ≤ 2000) = false := decide_eq_false (by omega)
    clear c8
    obtain rfl := Option.some.inj H
    go_enter Tryz.func112, Tryz.ntmps112
    go_wp2_with (first | ((with_reducible refine gc 96 ?_); refine gL 96 Tryz.func96 (some 8) #[.slice A1 l1.length c1] ?_; (with_reducible refine (impl_areFields.calls _ _ l1 true _ ?side1 ?side2 A4.out).mono ?_); (case side1 => exact kc HR1.out); (case side2 => exact HC1.out); rintro e w13 ⟨rfl, hb⟩; refine ⟨_, rfl, ?_⟩; replace HB := ak (below_step (bl HB.out) hb); clear hb) | (go_at_call 158; (with_reducible refine (impl_headText.calls k a0 _ _ l1 t443 _ ?side1 ?side2 A7.out).mono ?_); (case side1 => exact kc (Kd.C_below HR1.out HB.out)); (case side2 => exact HC1.out); rintro e w14 ⟨rfl, hb⟩; replace HB := ak (below_step (bl HB.out) hb); clear hb))
    go_ret
    exact rz (bl HB.out)
  ·rw [if_neg c6] at H
   have c6b0 := decide_eq_false c6
   have c6b1 : decide (a2.size ≤ 300) = false := decide_eq_false (by omega)
   clear c6
   obtain rfl := Option.some.inj H
   go_enter Tryz.func112, Tryz.ntmps112
   go_wp2_with (first | ((with_reducible refine gc 96 ?_); refine gL 96 Tryz.func96 (some 8) #[.slice A1 l1.length c1] ?_; (with_reducible refine (impl_areFields.calls _ _ l1 true _ ?side1 ?side2 A4.out).mono ?_); (case side1 => exact kc HR1.out); (case side2 => exact HC1.out); rintro e w15 ⟨rfl, hb⟩; refine ⟨_, rfl, ?_⟩; replace HB := ak (below_step (bl HB.out) hb); clear hb))
   go_ret
   exact rz (bl HB.out)
 ·replace c5 := Bool.eq_false_iff.mpr c5
  subst c5
  rw [if_neg ff] at H
  obtain rfl := Option.some.inj H
  go_enter Tryz.func112, Tryz.ntmps112
  go_wp2_with (first | ((with_reducible refine gc 96 ?_); refine gL 96 Tryz.func96 (some 8) #[.slice A1 l1.length c1] ?_; (with_reducible refine (impl_areFields.calls _ _ l1 false _ ?side1 ?side2 A4.out).mono ?_); (case side1 => exact kc HR1.out); (case side2 => exact HC1.out); rintro e w16 ⟨rfl, hb⟩; refine ⟨_, rfl, ?_⟩; replace HB := ak (below_step (bl HB.out) hb); clear hb))
  go_ret
  exact rz (bl HB.out)

/-! ### impl_isResponseLine: function 178 -/
def impl_isResponseLine.f (a0_0 : Int) (a0_1 : ByteArray) (l0_2 : List (S105)) (a0_3 : ByteArray) : Option (Bool) := (impl_within.f a0_0 100 599).bind fun t446 => (if t446 = true then ((impl_isPrinted.f a0_1 40).bind fun t447 => (some t447)) else (some false))
set_option maxHeartbeats 8000000 in
set_option maxRecDepth 100000 in
theorem impl_isResponseLine.calls (a0_0 : Int) (a0_1 : ByteArray) (A0_2 : Option Addr) (c0_2 : Nat) (l0_2 : List (S105)) (a0_3 : ByteArray) (r : Bool) (w : World) (hr0_2 : Kd.C k105 w A0_2 l0_2.length l0_2) (hc0_2 : l0_2.length ≤ c0_2) (h : impl_isResponseLine.f a0_0 a0_1 l0_2 a0_3 = some r) :
  Calls Tryz.prog 178 #[.agg #[.int .i64 a0_0, .string a0_1, .slice A0_2 l0_2.length c0_2, .string a0_3]] w fun e w' => e = .returned (.bool r) ∧ Below w.heap.size w w' := by
 have hu57 := Tryz.underlying57
 have HR0_2 := ak hr0_2
 have HC0_2 := ak hc0_2
 clear hr0_2 hc0_2
 have HB := ak (Below.refl w.heap.size w)
 unfold impl_isResponseLine.f at h; have H := h
 clear h
 replace H := bs H
 obtain ⟨t446, A2, H⟩ := H
 try dsimp only at H
 by_cases c3 : t446 = true
 ·subst c3
  rw [if_pos rfl] at H
  replace H := bs H
  obtain ⟨t447, A4, H⟩ := H
  try dsimp only at H
  obtain rfl := Option.some.inj H
  go_enter Tryz.func178, Tryz.ntmps178
  go_wp2_with (first | ((with_reducible refine gd 1 ?_); refine bE 1 #[.int .i64 a0_0, .string a0_1, .slice A0_2 l0_2.length c0_2, .string a0_3] 57 ?_; intro gb445 hg w5 hbox hb; have BK445 := ak hbox; have GW445 := gs hg (bl HB.out); have GE445 := gs hg (bl HB.out); replace HB := ak (below_step (bl HB.out) hb); clear hb hbox hg; obtain ⟨_, _, _, _, _, _, _, _⟩ := b4 BK445.out) | ((with_reducible refine gc 78 ?_); refine gL 78 Tryz.func78 (some 5) #[.int .i64 a0_0, .int .i64 100, .int .i64 599] ?_; (with_reducible refine (impl_within.calls a0_0 100 599 true _ A2.out).mono ?_); rintro e w' ⟨rfl, ⟨nd, rfl⟩⟩; refine ⟨_, rfl, ?_⟩) | (go_at_call 176; (with_reducible refine (impl_isPrinted.calls a0_1 40 t447 _ A4.out).mono ?_); rintro e w7 ⟨rfl, hb⟩; replace BK445 := ak (blk_below (bk BK445.out) hb); replace HB := ak (below_step (bl1 HB.out GE445.out) hb); clear hb))
  go_ret
  exact rz (bl1 HB.out GE445.out)
 ·replace c3 := Bool.eq_false_iff.mpr c3
  subst c3
  rw [if_neg ff] at H
  obtain rfl := Option.some.inj H
  go_enter Tryz.func178, Tryz.ntmps178
  go_wp2_with (first | ((with_reducible refine gd 1 ?_); refine bE 1 #[.int .i64 a0_0, .string a0_1, .slice A0_2 l0_2.length c0_2, .string a0_3] 57 ?_; intro gb445 hg w8 hbox hb; have BK445 := ak hbox; have GW445 := gs hg (bl HB.out); have GE445 := gs hg (bl HB.out); replace HB := ak (below_step (bl HB.out) hb); clear hb hbox hg; obtain ⟨_, _, _, _, _, _, _, _⟩ := b4 BK445.out) | ((with_reducible refine gc 78 ?_); refine gL 78 Tryz.func78 (some 5) #[.int .i64 a0_0, .int .i64 100, .int .i64 599] ?_; (with_reducible refine (impl_within.calls a0_0 100 599 false _ A2.out).mono ?_); rintro e w' ⟨rfl, ⟨nd, rfl⟩⟩; refine ⟨_, rfl, ?_⟩))
  go_ret
  exact rz (bl1 HB.out GE445.out)

/-! ### impl_responseLine: function 179 -/
def impl_responseLine.f (a0_0 : Int) (a0_1 : ByteArray) (l0_2 : List (S105)) (a0_3 : ByteArray) : Option (ByteArray) := (strconv_Itoa.f a0_0).bind fun t449 => (if 9 + t449.size ≤ 9223372036854775807 then (if ((⟨#[72, 84, 84, 80, 47, 49, 46, 49, 32]⟩ : ByteArray) ++ t449).size + 1 ≤ 9223372036854775807 then (if (((⟨#[72, 84, 84, 80, 47, 49, 46, 49, 32]⟩ : ByteArray) ++ t449) ++ (⟨#[32]⟩ : ByteArray)).size + a0_1.size ≤ 9223372036854775807 then (some ((((⟨#[72, 84, 84, 80, 47, 49, 46, 49, 32]⟩ : ByteArray) ++ t449) ++ (⟨#[32]⟩ : ByteArray)) ++ a0_1)) else (none)) else (none)) else (none))
def impl_responseLine.T1 : Bool × List (List Nat × List Nat) := (true, [([], []), ([0], [0]), ([1], [1]), ([2], [2]), ([3], [3]), ([], []), ([5], [5]), ([4, 6], [4, 6]), ([7, 2, 0, 1, 2, 3, 4, 5, 6, 7], [7])])
def impl_responseLine.B1 : List Nat := [0, 1, 3, 7, 15, 0, 32, 127, 255]
theorem impl_responseLine.tab1 : rtab .any (opsOf Tryz.f179 1) = impl_responseLine.T1 := by kernel_rfl
theorem impl_responseLine.bits1 : waitsOk impl_responseLine.T1.2 impl_responseLine.B1 = true := by kernel_rfl
set_option maxHeartbeats 8000000 in
set_option maxRecDepth 100000 in
theorem impl_responseLine.calls (a0_0 : Int) (a0_1 : ByteArray) (A0_2 : Option Addr) (c0_2 : Nat) (l0_2 : List (S105)) (a0_3 : ByteArray) (r : ByteArray) (w : World) (hr0_2 : Kd.C k105 w A0_2 l0_2.length l0_2) (hc0_2 : l0_2.length ≤ c0_2) (h : impl_responseLine.f a0_0 a0_1 l0_2 a0_3 = some r) (ht : Glob w) :
  Calls Tryz.prog 179 #[.agg #[.int .i64 a0_0, .string a0_1, .slice A0_2 l0_2.length c0_2, .string a0_3]] w fun e w' => e = .returned (.string r) ∧ Below w.heap.size w w' := by
 have hu57 := Tryz.underlying57
 have HR0_2 := ak hr0_2
 have HC0_2 := ak hc0_2
 clear hr0_2 hc0_2
 have HT := ak ht
 clear ht
 have HB := ak (Below.refl w.heap.size w)
 unfold impl_responseLine.f at h; have H := h
 clear h
 replace H := bs H
 obtain ⟨t449, A2, H⟩ := H
 try dsimp only at H
 by_cases c3 : 9 + t449.size ≤ 9223372036854775807
 ·rw [if_pos c3] at H
  have c3b0 := eq_true c3
  have c3b1 := decide_eq_true c3
  try have c3b2 : (9223372036854775807 < 9 + t449.size) = False := eq_false (Nat.not_lt.2 c3)
  by_cases c4 : ((⟨#[72, 84, 84, 80, 47, 49, 46, 49, 32]⟩ : ByteArray) ++ t449).size + 1 ≤ 9223372036854775807
  ·rw [if_pos c4] at H
   have c4b0 := eq_true c4
   have c4b1 := decide_eq_true c4
   try have c4b2 : (9223372036854775807 < ((⟨#[72, 84, 84, 80, 47, 49, 46, 49, 32]⟩ : ByteArray) ++ t449).size + 1) = False := eq_false (Nat.not_lt.2 c4)
   try have c4b3 : (9223372036854775807 < 9 + t449.size + 1) = False := by (have h_ := c4b2; simp only [ByteArray.size_append] at h_; exact h_)
   by_cases c5 : (((⟨#[72, 84, 84, 80, 47, 49, 46, 49, 32]⟩ : ByteArray) ++ t449) ++ (⟨#[32]⟩ : ByteArray)).size + a0_1.size ≤ 9223372036854775807
   ·rw [if_pos c5] at H
    have c5b0 := eq_true c5
    have c5b1 := decide_eq_true c5
    try have c5b2 : (9223372036854775807 < (((⟨#[72, 84, 84, 80, 47, 49, 46, 49, 32]⟩ : ByteArray) ++ t449) ++ (⟨#[32]⟩ : ByteArray)).size + a0_1.size) = False := eq_false (Nat.not_lt.2 c5)
    try have c5b3 : (9223372036854775807 < 9 + t449.size + 1 + a0_1.size) = False := by (have h_ := c5b2; simp only [ByteArray.size_append] at h_; exact h_)
    obtain rfl := Option.some.inj H
    go_enter Tryz.func179, Tryz.ntmps179
    try go_wp2_with (first | ((with_reducible refine gd 1 ?_); refine bE 1 #[.int .i64 a0_0, .string a0_1, .slice A0_2 l0_2.length c0_2, .string a0_3] 57 ?_; intro gb448 hg w6 hbox hb; have BK448 := ak hbox; have GW448 := gs hg (bl HB.out); have GE448 := gs hg (bl HB.out); replace HB := ak (below_step (bl HB.out) hb); clear hb hbox hg))
    replace BK448 := ak (blk_drew BK448.out)
    replace HB := ak (below_drew1 HB.out)
    refine start_ (n := 9) (S := fun w' => w'.cell? ⟨gb448, 0, none⟩ = some (.int .i64 a0_0) ∧ w'.cell? ⟨gb448, 1, none⟩ = some (.string a0_1) ∧ w'.cell? ⟨gb448, 2, none⟩ = some (.slice A0_2 l0_2.length c0_2) ∧ w'.cell? ⟨gb448, 3, none⟩ = some (.string a0_3)) (ds := []) #[false, false, false, false, false, false, false, false, false] (by kernel_rfl) rfl rfl ⟨bc0 BK448.out, bc1 BK448.out, bc2 BK448.out, bc3 BK448.out⟩ (fun hHeld => ?_); refine with_tabW impl_responseLine.tab1 impl_responseLine.bits1 (fun HT_ HW_ => ?_)
    generalize w6.drew = w7 at BK448 HB hHeld ⊢
    refine pu 0 (some 3) HT_ ?_
    refine pu 5 (some 8) HT_ ?_
    refine tk 1 (some 4) HT_ HW_ hHeld ?_
    refine tk 6 (some 9) HT_ HW_ hHeld ?_
    refine on 2 (some 5) HT_ (fun K hK => ?_)
    refine gO Tryz.func130 #[.int .i64 a0_0] ?_
    with_reducible refine (strconv_Itoa.calls a0_0 t449 _ A2.out (globg HT.out (bl1 HB.out GE448.out))).mono ?_
    rintro e w8 ⟨rfl, hb⟩
    refine ⟨_, rfl, ?_⟩
    replace BK448 := ak (blk_below (bk BK448.out) hb)
    replace HB := ak (below_step (bl1 HB.out GE448.out) hb)
    clear hb
    refine hK.out _ _ ⟨bc0 BK448.out, bc1 BK448.out, bc2 BK448.out, bc3 BK448.out⟩ (fun hHeld => ?_)
    clear hK K
    refine nr (some 5) ?_
    refine pu 3 (some 6) HT_ ?_
    refine pu 4 (some 7) HT_ ?_
    refine pu 7 (some 10) HT_ ?_
    refine pu 8 (some 2) HT_ ?_
    refine done_ (done_of HT_.out (by kernel_rfl)) ?_
    try go_wp2
    go_ret
    exact rz (bl1 HB.out GE448.out)
   ·rw [if_neg c5] at H
    exact absurd H (by simp)
  ·rw [if_neg c4] at H
   exact absurd H (by simp)
 ·rw [if_neg c3] at H
  exact absurd H (by simp)

end Go.Proofs.YtlmnmakkojgfnaaGreatDoor.PFnExactKeptFor
