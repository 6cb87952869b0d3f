-- written by a program of this session (wip/tool)
import Derived.Test.YthneflfbafieeaaGreatDoorPFnExactTakeResponsex0
import Derived.Test.YthneflfbafieeaaGreatDoorPFnExactTakeResponsex8
import Derived.Test.YthneflfbafieeaaGreatDoorPFnExactTakeResponsex9
import Derived.Test.YthneflfbafieeaaGreatDoorPFnExactTakeResponsex10
import Derived.Test.YthneflfbafieeaaGreatDoorPFnExactTakeResponsex11
import Derived.Test.YthneflfbafieeaaGreatDoorVOwn0
import Derived.Test.YthneflfbafieeaaGreatDoorVOwnOpen
import Derived.WalkKit
import Derived.BigCall
import Derived.Test.YthneflfbafieeaaGreatDoorOwnTr
import Derived.Test.YthneflfbafieeaaGreatDoorVOwnShort
namespace Go.Proofs.YthneflfbafieeaaGreatDoor.PFnExactTakeResponse
open Go.RowKit Go.Proofs.YthneflfbafieeaaGreatDoorW.PrintWords Go.Proofs.YthneflfbafieeaaGreatDoorW.PrintLast Go.Proofs.YthneflfbafieeaaGreatDoorW.PrintMore Go.Shelf Go.Proofs.YthneflfbafieeaaGreatDoorOwn
attribute [local go_sem] max2_int min2_int max_two min_two max_three min_three max_four min_four   -- for this text's walks alone
set_option linter.unusedVariables false
set_option linter.unusedSimpArgs false

/-! ### impl_lengthOf: function 67 -/
mutual
def impl_lengthOf.l0 : Nat → Int → Bool → List ByteArray → Int → Int → Option (Int × Bool × Bool)
 | 0, _, _, _, _, _ => none
 | k + 1, x5, x6, x16, x17, x18 => if x18 < x17 then (if 0 ≤ x18 then (if x18 < (x16.length : Int) then ((impl_listOf.f k (rdOf ByteArray.empty x16 x18)).bind fun bt267 => (if bt267.2 = true then (impl_lengthOf.j1 k x5 x6 bt267.1 x16 x17 x18 ((bt267.1.length : Int) == 0)) else (impl_lengthOf.j1 k x5 x6 bt267.1 x16 x17 x18 true))) else (none)) else (none)) else (some (x5, x6, true))
def impl_lengthOf.j1 : Nat → Int → Bool → List ByteArray → List ByteArray → Int → Int → Bool → Option (Int × Bool × Bool)
 | 0, _, _, _, _, _, _, _ => none
 | k + 1, x5, x6, x9, x16, x17, x18, x33 => if x33 = true then (some (0, false, false)) else (impl_lengthOf.l1 k x5 x6 x16 x17 x18 x9 (x9.length : Int) 0)
def impl_lengthOf.l1 : Nat → Int → Bool → List ByteArray → Int → Int → List ByteArray → Int → Int → Option (Int × Bool × Bool)
 | 0, _, _, _, _, _, _, _, _ => none
 | k + 1, x5, x6, x16, x17, x18, x34, x35, x36 => if x36 < x35 then (if 0 ≤ x36 then (if x36 < (x34.length : Int) then ((strconv_Atoi.f (rdOf ByteArray.empty x34 x36)).bind fun bt272 => (if bt272.2.isNone = true then (if ((rdOf ByteArray.empty x34 x36).size : Int) > 9 then (some (0, false, false)) else ((impl_areBytes_100.f (rdOf ByteArray.empty x34 x36)).bind fun t275 => (if t275 = true then (if x6 = true then (if bt272.1 = x5 then (impl_lengthOf.l1 k bt272.1 true x16 x17 x18 x34 x35 (wrap64 (x36 + 1))) else (some (0, false, false))) else (impl_lengthOf.l1 k bt272.1 true x16 x17 x18 x34 x35 (wrap64 (x36 + 1)))) else (some (0, false, false))))) else (some (0, false, false)))) else (none)) else (none)) else (impl_lengthOf.l0 k x5 x6 x16 x17 (wrap64 (x18 + 1)))
end
def impl_lengthOf.f (k : Nat) (l0 : List (S75)) : Option (Int × Bool × Bool) := (impl_valuesOf.f k l0 (⟨#[99, 111, 110, 116, 101, 110, 116, 45, 108, 101, 110, 103, 116, 104]⟩ : ByteArray)).bind fun t263 => (impl_lengthOf.l0 k 0 false t263 (t263.length : Int) 0)
theorem impl_lengthOf.mono_l : ∀ k, (∀ y0 y1 y2 y3 y4, LeO (impl_lengthOf.l0 k y0 y1 y2 y3 y4) (impl_lengthOf.l0 (k + 1) y0 y1 y2 y3 y4)) ∧ (∀ y0 y1 y2 y3 y4 y5 y6, LeO (impl_lengthOf.j1 k y0 y1 y2 y3 y4 y5 y6) (impl_lengthOf.j1 (k + 1) y0 y1 y2 y3 y4 y5 y6)) ∧ (∀ y0 y1 y2 y3 y4 y5 y6 y7, LeO (impl_lengthOf.l1 k y0 y1 y2 y3 y4 y5 y6 y7) (impl_lengthOf.l1 (k + 1) y0 y1 y2 y3 y4 y5 y6 y7))
 | 0 => ⟨fun _ _ _ _ _ r h => by simp [impl_lengthOf.l0] at h, fun _ _ _ _ _ _ _ r h => by simp [impl_lengthOf.j1] at h, fun _ _ _ _ _ _ _ _ r h => by simp [impl_lengthOf.l1] at h⟩
 | k + 1 => by
  obtain ⟨ih0, ih1, ih2⟩ := impl_lengthOf.mono_l k
  refine ⟨?_, ?_, ?_⟩
  ·intro y0 y1 y2 y3 y4
   unfold impl_lengthOf.l0
   repeat' first
   | (with_reducible exact ih0 _ _ _ _ _)
   | (with_reducible exact ih1 _ _ _ _ _ _ _)
   | (with_reducible exact ih2 _ _ _ _ _ _ _ _)
   | (with_reducible exact impl_listOf.mono _ _)
   | (with_reducible exact impl_valuesOf.mono _ _ _)
   | (with_reducible exact LeO.refl _)
   | (with_reducible exact LeO.none _)
   | (with_reducible refine LeO.ite ?_ ?_)
   | (with_reducible refine LeO.bind ?_ (fun _ => ?_))
   | exact ih0 _ _ _ _ _
   | exact ih1 _ _ _ _ _ _ _
   | exact ih2 _ _ _ _ _ _ _ _
   | exact impl_listOf.mono _ _
   | exact impl_valuesOf.mono _ _ _
   | exact LeO.none _
   | refine LeO.ite ?_ ?_
   | refine LeO.bind ?_ (fun _ => ?_)
  ·intro y0 y1 y2 y3 y4 y5 y6
   unfold impl_lengthOf.j1
   repeat' first
   | (with_reducible exact ih0 _ _ _ _ _)
   | (with_reducible exact ih1 _ _ _ _ _ _ _)
   | (with_reducible exact ih2 _ _ _ _ _ _ _ _)
   | (with_reducible exact impl_listOf.mono _ _)
   | (with_reducible exact impl_valuesOf.mono _ _ _)
   | (with_reducible exact LeO.refl _)
   | (with_reducible exact LeO.none _)
   | (with_reducible refine LeO.ite ?_ ?_)
   | (with_reducible refine LeO.bind ?_ (fun _ => ?_))
   | exact ih0 _ _ _ _ _
   | exact ih1 _ _ _ _ _ _ _
   | exact ih2 _ _ _ _ _ _ _ _
   | exact impl_listOf.mono _ _
   | exact impl_valuesOf.mono _ _ _
   | exact LeO.none _
   | refine LeO.ite ?_ ?_
   | refine LeO.bind ?_ (fun _ => ?_)
  ·intro y0 y1 y2 y3 y4 y5 y6 y7
   unfold impl_lengthOf.l1
   repeat' first
   | (with_reducible exact ih0 _ _ _ _ _)
   | (with_reducible exact ih1 _ _ _ _ _ _ _)
   | (with_reducible exact ih2 _ _ _ _ _ _ _ _)
   | (with_reducible exact impl_listOf.mono _ _)
   | (with_reducible exact impl_valuesOf.mono _ _ _)
   | (with_reducible exact LeO.refl _)
   | (with_reducible exact LeO.none _)
   | (with_reducible refine LeO.ite ?_ ?_)
   | (with_reducible refine LeO.bind ?_ (fun _ => ?_))
   | exact ih0 _ _ _ _ _
   | exact ih1 _ _ _ _ _ _ _
   | exact ih2 _ _ _ _ _ _ _ _
   | exact impl_listOf.mono _ _
   | exact impl_valuesOf.mono _ _ _
   | exact LeO.none _
   | refine LeO.ite ?_ ?_
   | refine LeO.bind ?_ (fun _ => ?_)
theorem impl_lengthOf.mono : ∀ a0 k, LeO (impl_lengthOf.f k a0) (impl_lengthOf.f (k + 1) a0) := by
 intro a0 k
 obtain ⟨ih0, ih1, ih2⟩ := impl_lengthOf.mono_l k
 unfold impl_lengthOf.f
 repeat' first
   | (with_reducible exact ih0 _ _ _ _ _)
   | (with_reducible exact ih1 _ _ _ _ _ _ _)
   | (with_reducible exact ih2 _ _ _ _ _ _ _ _)
   | (with_reducible exact impl_listOf.mono _ _)
   | (with_reducible exact impl_valuesOf.mono _ _ _)
   | (with_reducible exact LeO.refl _)
   | (with_reducible exact LeO.none _)
   | (with_reducible refine LeO.ite ?_ ?_)
   | (with_reducible refine LeO.bind ?_ (fun _ => ?_))
   | exact ih0 _ _ _ _ _
   | exact ih1 _ _ _ _ _ _ _
   | exact ih2 _ _ _ _ _ _ _ _
   | exact impl_listOf.mono _ _
   | exact impl_valuesOf.mono _ _ _
   | exact LeO.none _
   | refine LeO.ite ?_ ?_
   | refine LeO.bind ?_ (fun _ => ?_)
set_option maxHeartbeats 8000000 in
set_option maxRecDepth 100000 in
theorem impl_lengthOf.calls (k : Nat) (A0 : Option Addr) (c0 : Nat) (l0 : List (S75)) (r1 : Int) (r2 : Bool) (r3 : Bool) (w : World) (hr0 : Kd.C k75 w A0 l0.length l0) (hc0 : l0.length ≤ c0) (h : impl_lengthOf.f k l0 = some (r1, r2, r3)) (ht : Glob w) :
  Calls Tryz.prog 67 #[.slice A0 l0.length c0] w fun e w' => e = .returned (.tuple #[.int .i64 r1, .bool r2, .bool r3]) ∧ Below w.heap.size w w' := by
 have hu91 := Tryz.underlying91
 have HR0 := Aside0.mk hr0
 have HC0 := Aside0.mk hc0
 clear hr0 hc0
 have HT := Aside0.mk ht
 clear ht
 have HB := Aside0.mk (Below.refl w.heap.size w)
 have H : ((impl_valuesOf.f k l0 (⟨#[99, 111, 110, 116, 101, 110, 116, 45, 108, 101, 110, 103, 116, 104]⟩ : ByteArray)).bind fun t263 => (impl_lengthOf.l0 k 0 false t263 (t263.length : Int) 0)) = some (r1, r2, r3) := h
 clear h
 replace H := Option.bind_eq_some_iff.mp H
 obtain ⟨t263, A20, H⟩ := H
 try dsimp only at H
 have A2 := Aside0.mk A20
 clear A20
 have H' := Aside0.mk H
 clear H
 go_enter Tryz.func67, Tryz.ntmps67
 go_wp2_with (first | ((with_reducible refine gate_callee (f := 97) rfl ?_); refine goesL_ (some 16) rfl rfl Tryz.func97 (by kernel_rfl) rfl #[.slice A0 l0.length c0, .string (⟨#[99, 111, 110, 116, 101, 110, 116, 45, 108, 101, 110, 103, 116, 104]⟩ : ByteArray)] rfl (by (try simp only [List.map_toArray, List.map_cons, List.map_nil]); first | done | rfl | (simp only [List.length_drop, List.length_take]; rfl)) ?_; (with_reducible refine (impl_valuesOf.calls k _ _ l0 (⟨#[99, 111, 110, 116, 101, 110, 116, 45, 108, 101, 110, 103, 116, 104]⟩ : ByteArray) t263 _ ?side1 ?side2 A2.out).mono ?_); (case side1 => exact kc HR0.out); (case side2 => exact HC0.out); rintro e w3 ⟨v264, rfl, ho0, hb⟩; refine ⟨_, rfl, ?_⟩; have n0_ := Aside0.mk (Kd.R_lower ho0 (below_size (bl HB.out))); have n1_ := Aside0.mk (below_step (bl HB.out) hb); clear HB; have HO265 := n0_; have HB := n1_; clear n0_ n1_; (try clear hb); (try clear hb2); (try clear hk); (try clear hi); (try clear ho0); obtain ⟨Ao4, co4, eo4⟩ := Kd.R_slice HO265.out; subst eo4))
 go_loopg [5, 6, 18] k (fun kq v5 v6 v18 w' => ∃ (x5_1 : Int) (x6_1 : Bool) (x18_1 : Int), v5 = .int .i64 x5_1 ∧ v6 = .bool x6_1 ∧ v18 = .int .i64 x18_1 ∧ Aside0 (impl_lengthOf.l0 kq x5_1 x6_1 t263 (t263.length : Int) x18_1 = some (r1, r2, r3)) ∧ Aside0 (kq ≤ k) ∧ Aside0 (Kd.R Kd.string 9 w' w.heap.size (fun _ => True) (.slice Ao4 t263.length co4) t263) ∧ Aside0 (Below w.heap.size w w'))
 case atStart => exact ⟨(0), (false), (0), (by first | rfl | (simp; done) | (simp [*]; done)), (by first | rfl | (simp; done) | (simp [*]; done)), (by first | rfl | (simp; done) | (simp [*]; done)), H', ⟨Nat.le_refl _⟩, ⟨kr HO265.out⟩, ⟨bl HB.out⟩⟩
 case round =>
  clear H'
  try clear p2
  obtain ⟨x5_1, x6_1, x18_1, rfl, rfl, rfl, HA, HK1, HO_16, HB⟩ := hrel
  cases gk with
  | zero => exact absurd HA.out (by simp [impl_lengthOf.l0])
  | succ k1 =>
   have H := HA.out
   clear HA
   simp only [impl_lengthOf.l0] at H
   by_cases c5 : x18_1 < (t263.length : Int)
   ·rw [if_pos c5] at H
    have c5b0 : decide (x18_1 < (t263.length : Int)) = true := decide_eq_true c5
    clear c5
    by_cases c6 : 0 ≤ x18_1
    ·rw [if_pos c6] at H
     have c6b0 : decide (0 ≤ x18_1) = true := decide_eq_true c6
     clear c6
     by_cases c7 : x18_1 < (t263.length : Int)
     ·rw [if_pos c7] at H
      have c7b0 : decide (x18_1 < (t263.length : Int)) = true := decide_eq_true c7
      clear c7
      replace H := Option.bind_eq_some_iff.mp H
      obtain ⟨⟨t267, t268⟩, A80, H⟩ := H
      try dsimp only at H
      have A8 := Aside0.mk A80
      clear A80
      have HC9 := Aside0.mk H
      clear H
      have p266 : 0 ≤ (x18_1 : Int) := of_decide_eq_true (by first | (with_reducible assumption) | assumption)
      have q266 : x18_1 < (t263.length : Int) := of_decide_eq_true (by first | (with_reducible assumption) | assumption)
      obtain ⟨ad266, e266, hx266_0⟩ := Kd.at_string (Kd.R_reads' HO_16.out).2.2 x18_1 p266 q266
      cases e266
      replace p266 := eq_true p266
      replace q266 := eq_true q266
      go_upto_region 6 with (first | ((with_reducible refine gate_callee (f := 98) rfl ?_); refine goesL_ (some 24) rfl rfl Tryz.func98 (by kernel_rfl) rfl #[.string (rdOf ByteArray.empty t263 x18_1)] rfl (by (try simp only [List.map_toArray, List.map_cons, List.map_nil]); first | done | rfl | (simp only [List.length_drop, List.length_take]; rfl)) ?_; (with_reducible refine (impl_listOf.calls k1 (rdOf ByteArray.empty t263 x18_1) t267 t268 _ A8.out).mono ?_); rintro e w10 ⟨v269, rfl, ho0, hb⟩; refine ⟨_, rfl, ?_⟩; have n0_ := Aside0.mk (Kd.R_elder' (kr HO_16.out) (Kd.R_base ho0) hb); have n1_ := Aside0.mk (Kd.R_lower (Kd.R_new' ho0 (Kd.R_lt (kr HO_16.out))) (below_size (bl HB.out))); have n2_ := Aside0.mk (below_step (bl HB.out) hb); clear HO_16; clear HB; have HO_16 := n0_; have HO270 := n1_; have HB := n2_; clear n0_ n1_ n2_; (try clear hb); (try clear hb2); (try clear hk); (try clear hi); (try clear ho0)))
      (try simp only [Act.put, List.setIfInBounds_toArray, List.set_cons_zero, List.set_cons_succ])
      go_cut [33] (fun v33 wc => ∃ (kq : Nat) (x33_8 : Bool), v33 = .bool x33_8 ∧ Aside0 (impl_lengthOf.j1 kq x5_1 x6_1 t267 t263 (t263.length : Int) x18_1 x33_8 = some (r1, r2, r3)) ∧ Aside0 (kq ≤ k1) ∧ Aside0 (Kd.R Kd.string 9 wc w.heap.size (fun k_ => some k_ ≠ ((.slice (some ad266) t263.length co4) : Value).ownBlock) v269 t267) ∧ Aside0 (Kd.R Kd.string 9 wc w.heap.size (fun k_ => some k_ ≠ (v269 : Value).ownBlock) (.slice (some ad266) t263.length co4) t263) ∧ Aside0 (Below w.heap.size w wc))
      case first =>
       have H := HC9.out
       clear HC9
       by_cases c11 : t268 = true
       ·subst c11
        have H1 : (impl_lengthOf.j1 k1 x5_1 x6_1 t267 t263 (t263.length : Int) x18_1 ((t267.length : Int) == 0)) = some (r1, r2, r3) := by rw [if_pos rfl] at H; exact H
        clear H
        have H := H1
        clear H1
        have H' := Aside0.mk H
        clear H
        obtain ⟨Ao12, co12, eo12⟩ := Kd.R_slice HO270.out
        subst eo12
        go_wp2
        go_meet
        case rel => exact ⟨_, (((t267.length : Int) == 0)), (by first | rfl | (simp; done) | (simp [*]; done)), H', ⟨by have := HK1.out; first | omega | exact Nat.le_refl _⟩, ⟨by (with_reducible repeat (first | apply Kd.R_alloc | apply Kd.R_drewN | apply Kd.R_drew)); exact Kd.R_mono HO270.out (fun _ hk => hk.2)⟩, ⟨by (with_reducible repeat (first | apply Kd.R_alloc | apply Kd.R_drewN | apply Kd.R_drew)); exact Kd.R_mono HO_16.out (fun _ hk => hk.2)⟩, ⟨bl HB.out⟩⟩
       ·replace c11 := Bool.eq_false_iff.mpr c11
        subst c11
        have H1 : (impl_lengthOf.j1 k1 x5_1 x6_1 t267 t263 (t263.length : Int) x18_1 true) = some (r1, r2, r3) := by rw [if_neg (show ¬ (false = true) by decide)] at H; exact H
        clear H
        have H := H1
        clear H1
        have H' := Aside0.mk H
        clear H
        go_wp2
        go_meet
        case rel => exact ⟨_, (true), (by first | rfl | (simp; done) | (simp [*]; done)), H', ⟨by have := HK1.out; first | omega | exact Nat.le_refl _⟩, ⟨by (with_reducible repeat (first | apply Kd.R_alloc | apply Kd.R_drewN | apply Kd.R_drew)); exact Kd.R_mono HO270.out (fun _ hk => hk.2)⟩, ⟨by (with_reducible repeat (first | apply Kd.R_alloc | apply Kd.R_drewN | apply Kd.R_drew)); exact Kd.R_mono HO_16.out (fun _ hk => hk.2)⟩, ⟨bl HB.out⟩⟩
      case rest =>
       clear HC9
       try clear c1
       try clear p2
       try clear q2
       try clear hx2
       try clear c5
       try clear c5b0
       try clear c6
       try clear c6b0
       try clear c7
       try clear c7b0
       try clear c9
       try clear c11
       try clear hx266_0
       try clear p2
       try clear p266
       try clear q266
       obtain ⟨kq, x33_8, rfl, HA, HJ8, HO_9, HO_16, HB⟩ := hcut
       cases kq with
       | zero => exact absurd HA.out (by simp [impl_lengthOf.j1])
       | succ kj8 =>
        have H := HA.out
        clear HA
        simp only [impl_lengthOf.j1] at H
        by_cases c13 : x33_8 = true
        ·subst c13
         have H1 : (some (0, false, false)) = some (r1, r2, r3) := by rw [if_pos rfl] at H; exact H
         clear H
         have H := H1
         clear H1
         simp only [Option.some.injEq, Prod.mk.injEq] at H
         obtain ⟨rfl, rfl, rfl⟩ := H
         go_wp2
         go_ret3
         exact ⟨by first | rfl | (simp [errW_none, errW_some, errV_none, errV_some] <;> rfl) | (simp [*, errW_none, errW_some] <;> rfl), bl HB.out⟩
        ·replace c13 := Bool.eq_false_iff.mpr c13
         subst c13
         have H1 : (impl_lengthOf.l1 kj8 x5_1 x6_1 t263 (t263.length : Int) x18_1 t267 (t267.length : Int) 0) = some (r1, r2, r3) := by rw [if_neg (show ¬ (false = true) by decide)] at H; exact H
         clear H
         have H := H1
         clear H1
         have H' := Aside0.mk H
         clear H
         obtain ⟨Ao14, co14, eo14⟩ := Kd.R_slice HO_9.out
         subst eo14
         go_wp2
         go_loopg [5, 6, 36] kj8 (fun kq v5 v6 v36 w' => ∃ (x5_3 : Int) (x6_3 : Bool) (x36_3 : Int), v5 = .int .i64 x5_3 ∧ v6 = .bool x6_3 ∧ v36 = .int .i64 x36_3 ∧ Aside0 (impl_lengthOf.l1 kq x5_3 x6_3 t263 (t263.length : Int) x18_1 t267 (t267.length : Int) x36_3 = some (r1, r2, r3)) ∧ Aside0 (kq ≤ kj8) ∧ Aside0 (Kd.R Kd.string 9 w' w.heap.size (fun k_ => some k_ ≠ ((.slice Ao14 t267.length co14) : Value).ownBlock) (.slice (some ad266) t263.length co4) t263) ∧ Aside0 (Kd.R Kd.string 9 w' w.heap.size (fun k_ => some k_ ≠ ((.slice (some ad266) t263.length co4) : Value).ownBlock) (.slice Ao14 t267.length co14) t267) ∧ Aside0 (Below w.heap.size w w'))
         case atStart => exact ⟨(x5_1), (x6_1), (0), (by first | rfl | (simp; done) | (simp [*]; done)), (by first | rfl | (simp; done) | (simp [*]; done)), (by first | rfl | (simp; done) | (simp [*]; done)), H', ⟨Nat.le_refl _⟩, ⟨kr HO_16.out⟩, ⟨kr HO_9.out⟩, ⟨bl HB.out⟩⟩
         case round =>
          clear H'
          try clear c1
          try clear p2
          try clear q2
          try clear hx2
          try clear c5
          try clear c5b0
          try clear c6
          try clear c6b0
          try clear c7
          try clear c7b0
          try clear c9
          try clear c11
          try clear c13
          try clear hx266_0
          try clear p2
          try clear p266
          try clear q2
          try clear q266
          obtain ⟨x5_3, x6_3, x36_3, rfl, rfl, rfl, HA, HK3, HO_16, HO_34, HB⟩ := hrel
          cases gk with
          | zero => exact absurd HA.out (by simp [impl_lengthOf.l1])
          | succ k3 =>
           have H := HA.out
           clear HA
           simp only [impl_lengthOf.l1] at H
           by_cases c15 : x36_3 < (t267.length : Int)
           ·rw [if_pos c15] at H
            have c15b0 : decide (x36_3 < (t267.length : Int)) = true := decide_eq_true c15
            clear c15
            by_cases c16 : 0 ≤ x36_3
            ·rw [if_pos c16] at H
             have c16b0 : decide (0 ≤ x36_3) = true := decide_eq_true c16
             clear c16
             by_cases c17 : x36_3 < (t267.length : Int)
             ·rw [if_pos c17] at H
              have c17b0 : decide (x36_3 < (t267.length : Int)) = true := decide_eq_true c17
              clear c17
              replace H := Option.bind_eq_some_iff.mp H
              obtain ⟨⟨t272, t273⟩, A180, H⟩ := H
              try dsimp only at H
              have A18 := Aside0.mk A180
              clear A180
              rcases t273 with _ | q274
              ·have H1 : (if ((rdOf ByteArray.empty t267 x36_3).size : Int) > 9 then (some (0, false, false)) else ((impl_areBytes_100.f (rdOf ByteArray.empty t267 x36_3)).bind fun t275 => (if t275 = true then (if x6_3 = true then (if t272 = x5_3 then (impl_lengthOf.l1 k3 t272 true t263 (t263.length : Int) x18_1 t267 (t267.length : Int) (wrap64 (x36_3 + 1))) else (some (0, false, false))) else (impl_lengthOf.l1 k3 t272 true t263 (t263.length : Int) x18_1 t267 (t267.length : Int) (wrap64 (x36_3 + 1)))) else (some (0, false, false))))) = some (r1, r2, r3) := by rw [if_pos (show (none : Option Int).isNone = true by rfl)] at H; exact H
               clear H
               have H := H1
               clear H1
               try simp only [errW_none, errW_some, errV_none, errV_some]
               by_cases c19 : ((rdOf ByteArray.empty t267 x36_3).size : Int) > 9
               ·rw [if_pos c19] at H
                have c19b0 : decide (9 < ((rdOf ByteArray.empty t267 x36_3).size : Int)) = true := decide_eq_true c19
                have c19b1 : decide (9 < (rdOf ByteArray.empty t267 x36_3).size) = true := decide_eq_true (by omega)
                clear c19
                simp only [Option.some.injEq, Prod.mk.injEq] at H
                obtain ⟨rfl, rfl, rfl⟩ := H
                have p271 : 0 ≤ (x36_3 : Int) := of_decide_eq_true (by first | (with_reducible assumption) | assumption)
                have q271 : x36_3 < (t267.length : Int) := of_decide_eq_true (by first | (with_reducible assumption) | assumption)
                obtain ⟨ad271, e271, hx271_0⟩ := Kd.at_string (Kd.R_reads' HO_34.out).2.2 x36_3 p271 q271
                cases e271
                replace p271 := eq_true p271
                replace q271 := eq_true q271
                go_wp2_with (first | ((with_reducible refine gate_callee (f := 77) rfl ?_); refine goesL_ (some 42) rfl rfl Tryz.func77 (by kernel_rfl) rfl #[.string (rdOf ByteArray.empty t267 x36_3)] rfl (by (try simp only [List.map_toArray, List.map_cons, List.map_nil]); first | done | rfl | (simp only [List.length_drop, List.length_take]; rfl)) ?_; (with_reducible refine (strconv_Atoi.calls (rdOf ByteArray.empty t267 x36_3) t272 none _ A18.out (globg HT.out (bl HB.out))).mono ?_); rintro e w20 ⟨tp_, p_, rfl, hb⟩; refine ⟨_, rfl, ?_⟩; have n0_ := Aside0.mk (Kd.R_below (kr HO_16.out) hb); have n1_ := Aside0.mk (Kd.R_below (kr HO_34.out) hb); have n2_ := Aside0.mk (below_step (bl HB.out) hb); clear HO_16; clear HO_34; clear HB; have HO_16 := n0_; have HO_34 := n1_; have HB := n2_; clear n0_ n1_ n2_; (try clear hb); (try clear hb2); (try clear hk); (try clear hi); (try simp only [errW_none, errW_some, errV_none, errV_some])))
                go_ret3
                exact ⟨by first | rfl | (simp [errW_none, errW_some, errV_none, errV_some] <;> rfl) | (simp [*, errW_none, errW_some] <;> rfl), bl HB.out⟩
               ·rw [if_neg c19] at H
                have c19b0 : decide (9 < ((rdOf ByteArray.empty t267 x36_3).size : Int)) = false := decide_eq_false c19
                have c19b1 : decide (9 < (rdOf ByteArray.empty t267 x36_3).size) = false := decide_eq_false (by omega)
                clear c19
                replace H := Option.bind_eq_some_iff.mp H
                obtain ⟨t275, A210, H⟩ := H
                try dsimp only at H
                have A21 := Aside0.mk A210
                clear A210
                by_cases c22 : t275 = true
                ·subst c22
                 have H1 : (if x6_3 = true then (if t272 = x5_3 then (impl_lengthOf.l1 k3 t272 true t263 (t263.length : Int) x18_1 t267 (t267.length : Int) (wrap64 (x36_3 + 1))) else (some (0, false, false))) else (impl_lengthOf.l1 k3 t272 true t263 (t263.length : Int) x18_1 t267 (t267.length : Int) (wrap64 (x36_3 + 1)))) = some (r1, r2, r3) := by rw [if_pos rfl] at H; exact H
                 clear H
                 have H := H1
                 clear H1
                 by_cases c23 : x6_3 = true
                 ·subst c23
                  have H1 : (if t272 = x5_3 then (impl_lengthOf.l1 k3 t272 true t263 (t263.length : Int) x18_1 t267 (t267.length : Int) (wrap64 (x36_3 + 1))) else (some (0, false, false))) = some (r1, r2, r3) := by rw [if_pos rfl] at H; exact H
                  clear H
                  have H := H1
                  clear H1
                  by_cases c24 : t272 = x5_3
                  ·rw [if_pos c24] at H
                   have c24b0 : (t272 == x5_3) = true := beq_iff_eq.mpr c24
                   have c24b1 : (t272 != x5_3) = false := bne_eq_false_iff_eq.mpr c24
                   clear c24
                   have H' := Aside0.mk H
                   clear H
                   have p271 : 0 ≤ (x36_3 : Int) := of_decide_eq_true (by first | (with_reducible assumption) | assumption)
                   have q271 : x36_3 < (t267.length : Int) := of_decide_eq_true (by first | (with_reducible assumption) | assumption)
                   obtain ⟨ad271, e271, hx271_0⟩ := Kd.at_string (Kd.R_reads' HO_34.out).2.2 x36_3 p271 q271
                   cases e271
                   replace p271 := eq_true p271
                   replace q271 := eq_true q271
                   go_wp2_with (first | ((with_reducible refine gate_callee (f := 77) rfl ?_); refine goesL_ (some 42) rfl rfl Tryz.func77 (by kernel_rfl) rfl #[.string (rdOf ByteArray.empty t267 x36_3)] rfl (by (try simp only [List.map_toArray, List.map_cons, List.map_nil]); first | done | rfl | (simp only [List.length_drop, List.length_take]; rfl)) ?_; (with_reducible refine (strconv_Atoi.calls (rdOf ByteArray.empty t267 x36_3) t272 none _ A18.out (globg HT.out (bl HB.out))).mono ?_); rintro e w25 ⟨tp_, p_, rfl, hb⟩; refine ⟨_, rfl, ?_⟩; have n0_ := Aside0.mk (Kd.R_below (kr HO_16.out) hb); have n1_ := Aside0.mk (Kd.R_below (kr HO_34.out) hb); have n2_ := Aside0.mk (below_step (bl HB.out) hb); clear HO_16; clear HO_34; clear HB; have HO_16 := n0_; have HO_34 := n1_; have HB := n2_; clear n0_ n1_ n2_; (try clear hb); (try clear hb2); (try clear hk); (try clear hi); (try simp only [errW_none, errW_some, errV_none, errV_some])) | (go_at_call 99; (with_reducible refine (impl_areBytes_100.calls (rdOf ByteArray.empty t267 x36_3)  true _ A21.out).mono ?_); rintro e w26 ⟨rfl, hb⟩; have n0_ := Aside0.mk (Kd.R_below (kr HO_16.out) hb); have n1_ := Aside0.mk (Kd.R_below (kr HO_34.out) hb); have n2_ := Aside0.mk (below_step (bl HB.out) hb); clear HO_16; clear HO_34; clear HB; have HO_16 := n0_; have HO_34 := n1_; have HB := n2_; clear n0_ n1_ n2_; (try clear hb); (try clear hb2); (try clear hk); (try clear hi)))
                   go_roundg k3
                   case measure => have := HK1.out; have := HJ8.out; have := HK3.out; omega
                   case rel => exact ⟨(t272), (true), (wrap64 (x36_3 + 1)), (by first | rfl | (simp; done) | (simp [*]; done)), (by first | rfl | (simp; done) | (simp [*]; done)), (by first | rfl | (simp; done) | (simp [*]; done)), H', ⟨by have := HK1.out; have := HJ8.out; have := HK3.out; omega⟩, ⟨kr HO_16.out⟩, ⟨kr HO_34.out⟩, ⟨bl HB.out⟩⟩
                  ·rw [if_neg c24] at H
                   have c24b0 : (t272 == x5_3) = false := beq_eq_false_iff_ne.mpr c24
                   have c24b1 : (t272 != x5_3) = true := bne_iff_ne.mpr c24
                   simp only [Option.some.injEq, Prod.mk.injEq] at H
                   obtain ⟨rfl, rfl, rfl⟩ := H
                   have p271 : 0 ≤ (x36_3 : Int) := of_decide_eq_true (by first | (with_reducible assumption) | assumption)
                   have q271 : x36_3 < (t267.length : Int) := of_decide_eq_true (by first | (with_reducible assumption) | assumption)
                   obtain ⟨ad271, e271, hx271_0⟩ := Kd.at_string (Kd.R_reads' HO_34.out).2.2 x36_3 p271 q271
                   cases e271
                   replace p271 := eq_true p271
                   replace q271 := eq_true q271
                   go_wp2_with (first | ((with_reducible refine gate_callee (f := 77) rfl ?_); refine goesL_ (some 42) rfl rfl Tryz.func77 (by kernel_rfl) rfl #[.string (rdOf ByteArray.empty t267 x36_3)] rfl (by (try simp only [List.map_toArray, List.map_cons, List.map_nil]); first | done | rfl | (simp only [List.length_drop, List.length_take]; rfl)) ?_; (with_reducible refine (strconv_Atoi.calls (rdOf ByteArray.empty t267 x36_3) t272 none _ A18.out (globg HT.out (bl HB.out))).mono ?_); rintro e w27 ⟨tp_, p_, rfl, hb⟩; refine ⟨_, rfl, ?_⟩; have n0_ := Aside0.mk (Kd.R_below (kr HO_16.out) hb); have n1_ := Aside0.mk (Kd.R_below (kr HO_34.out) hb); have n2_ := Aside0.mk (below_step (bl HB.out) hb); clear HO_16; clear HO_34; clear HB; have HO_16 := n0_; have HO_34 := n1_; have HB := n2_; clear n0_ n1_ n2_; (try clear hb); (try clear hb2); (try clear hk); (try clear hi); (try simp only [errW_none, errW_some, errV_none, errV_some])) | (go_at_call 99; (with_reducible refine (impl_areBytes_100.calls (rdOf ByteArray.empty t267 x36_3)  true _ A21.out).mono ?_); rintro e w28 ⟨rfl, hb⟩; have n0_ := Aside0.mk (Kd.R_below (kr HO_16.out) hb); have n1_ := Aside0.mk (Kd.R_below (kr HO_34.out) hb); have n2_ := Aside0.mk (below_step (bl HB.out) hb); clear HO_16; clear HO_34; clear HB; have HO_16 := n0_; have HO_34 := n1_; have HB := n2_; clear n0_ n1_ n2_; (try clear hb); (try clear hb2); (try clear hk); (try clear hi)))
                   go_ret3
                   exact ⟨by first | rfl | (simp [errW_none, errW_some, errV_none, errV_some] <;> rfl) | (simp [*, errW_none, errW_some] <;> rfl), bl HB.out⟩
                 ·replace c23 := Bool.eq_false_iff.mpr c23
                  subst c23
                  have H1 : (impl_lengthOf.l1 k3 t272 true t263 (t263.length : Int) x18_1 t267 (t267.length : Int) (wrap64 (x36_3 + 1))) = some (r1, r2, r3) := by rw [if_neg (show ¬ (false = true) by decide)] at H; exact H
                  clear H
                  have H := H1
                  clear H1
                  have H' := Aside0.mk H
                  clear H
                  have p271 : 0 ≤ (x36_3 : Int) := of_decide_eq_true (by first | (with_reducible assumption) | assumption)
                  have q271 : x36_3 < (t267.length : Int) := of_decide_eq_true (by first | (with_reducible assumption) | assumption)
                  obtain ⟨ad271, e271, hx271_0⟩ := Kd.at_string (Kd.R_reads' HO_34.out).2.2 x36_3 p271 q271
                  cases e271
                  replace p271 := eq_true p271
                  replace q271 := eq_true q271
                  go_wp2_with (first | ((with_reducible refine gate_callee (f := 77) rfl ?_); refine goesL_ (some 42) rfl rfl Tryz.func77 (by kernel_rfl) rfl #[.string (rdOf ByteArray.empty t267 x36_3)] rfl (by (try simp only [List.map_toArray, List.map_cons, List.map_nil]); first | done | rfl | (simp only [List.length_drop, List.length_take]; rfl)) ?_; (with_reducible refine (strconv_Atoi.calls (rdOf ByteArray.empty t267 x36_3) t272 none _ A18.out (globg HT.out (bl HB.out))).mono ?_); rintro e w29 ⟨tp_, p_, rfl, hb⟩; refine ⟨_, rfl, ?_⟩; have n0_ := Aside0.mk (Kd.R_below (kr HO_16.out) hb); have n1_ := Aside0.mk (Kd.R_below (kr HO_34.out) hb); have n2_ := Aside0.mk (below_step (bl HB.out) hb); clear HO_16; clear HO_34; clear HB; have HO_16 := n0_; have HO_34 := n1_; have HB := n2_; clear n0_ n1_ n2_; (try clear hb); (try clear hb2); (try clear hk); (try clear hi); (try simp only [errW_none, errW_some, errV_none, errV_some])) | (go_at_call 99; (with_reducible refine (impl_areBytes_100.calls (rdOf ByteArray.empty t267 x36_3)  true _ A21.out).mono ?_); rintro e w30 ⟨rfl, hb⟩; have n0_ := Aside0.mk (Kd.R_below (kr HO_16.out) hb); have n1_ := Aside0.mk (Kd.R_below (kr HO_34.out) hb); have n2_ := Aside0.mk (below_step (bl HB.out) hb); clear HO_16; clear HO_34; clear HB; have HO_16 := n0_; have HO_34 := n1_; have HB := n2_; clear n0_ n1_ n2_; (try clear hb); (try clear hb2); (try clear hk); (try clear hi)))
                  go_roundg k3
                  case measure => have := HK1.out; have := HJ8.out; have := HK3.out; omega
                  case rel => exact ⟨(t272), (true), (wrap64 (x36_3 + 1)), (by first | rfl | (simp; done) | (simp [*]; done)), (by first | rfl | (simp; done) | (simp [*]; done)), (by first | rfl | (simp; done) | (simp [*]; done)), H', ⟨by have := HK1.out; have := HJ8.out; have := HK3.out; omega⟩, ⟨kr HO_16.out⟩, ⟨kr HO_34.out⟩, ⟨bl HB.out⟩⟩
                ·replace c22 := Bool.eq_false_iff.mpr c22
                 subst c22
                 have H1 : (some (0, false, false)) = some (r1, r2, r3) := by rw [if_neg (show ¬ (false = true) by decide)] at H; exact H
                 clear H
                 have H := H1
                 clear H1
                 simp only [Option.some.injEq, Prod.mk.injEq] at H
                 obtain ⟨rfl, rfl, rfl⟩ := H
                 have p271 : 0 ≤ (x36_3 : Int) := of_decide_eq_true (by first | (with_reducible assumption) | assumption)
                 have q271 : x36_3 < (t267.length : Int) := of_decide_eq_true (by first | (with_reducible assumption) | assumption)
                 obtain ⟨ad271, e271, hx271_0⟩ := Kd.at_string (Kd.R_reads' HO_34.out).2.2 x36_3 p271 q271
                 cases e271
                 replace p271 := eq_true p271
                 replace q271 := eq_true q271
                 go_wp2_with (first | ((with_reducible refine gate_callee (f := 77) rfl ?_); refine goesL_ (some 42) rfl rfl Tryz.func77 (by kernel_rfl) rfl #[.string (rdOf ByteArray.empty t267 x36_3)] rfl (by (try simp only [List.map_toArray, List.map_cons, List.map_nil]); first | done | rfl | (simp only [List.length_drop, List.length_take]; rfl)) ?_; (with_reducible refine (strconv_Atoi.calls (rdOf ByteArray.empty t267 x36_3) t272 none _ A18.out (globg HT.out (bl HB.out))).mono ?_); rintro e w31 ⟨tp_, p_, rfl, hb⟩; refine ⟨_, rfl, ?_⟩; have n0_ := Aside0.mk (Kd.R_below (kr HO_16.out) hb); have n1_ := Aside0.mk (Kd.R_below (kr HO_34.out) hb); have n2_ := Aside0.mk (below_step (bl HB.out) hb); clear HO_16; clear HO_34; clear HB; have HO_16 := n0_; have HO_34 := n1_; have HB := n2_; clear n0_ n1_ n2_; (try clear hb); (try clear hb2); (try clear hk); (try clear hi); (try simp only [errW_none, errW_some, errV_none, errV_some])) | (go_at_call 99; (with_reducible refine (impl_areBytes_100.calls (rdOf ByteArray.empty t267 x36_3)  false _ A21.out).mono ?_); rintro e w32 ⟨rfl, hb⟩; have n0_ := Aside0.mk (Kd.R_below (kr HO_16.out) hb); have n1_ := Aside0.mk (Kd.R_below (kr HO_34.out) hb); have n2_ := Aside0.mk (below_step (bl HB.out) hb); clear HO_16; clear HO_34; clear HB; have HO_16 := n0_; have HO_34 := n1_; have HB := n2_; clear n0_ n1_ n2_; (try clear hb); (try clear hb2); (try clear hk); (try clear hi)))
                 go_ret3
                 exact ⟨by first | rfl | (simp [errW_none, errW_some, errV_none, errV_some] <;> rfl) | (simp [*, errW_none, errW_some] <;> rfl), bl HB.out⟩
              ·have H1 : (some (0, false, false)) = some (r1, r2, r3) := by rw [if_neg (show ¬ (some q274).isNone = true by simp)] at H; exact H
               clear H
               have H := H1
               clear H1
               try simp only [errW_none, errW_some, errV_none, errV_some]
               simp only [Option.some.injEq, Prod.mk.injEq] at H
               obtain ⟨rfl, rfl, rfl⟩ := H
               have p271 : 0 ≤ (x36_3 : Int) := of_decide_eq_true (by first | (with_reducible assumption) | assumption)
               have q271 : x36_3 < (t267.length : Int) := of_decide_eq_true (by first | (with_reducible assumption) | assumption)
               obtain ⟨ad271, e271, hx271_0⟩ := Kd.at_string (Kd.R_reads' HO_34.out).2.2 x36_3 p271 q271
               cases e271
               replace p271 := eq_true p271
               replace q271 := eq_true q271
               go_wp2_with (first | ((with_reducible refine gate_callee (f := 77) rfl ?_); refine goesL_ (some 42) rfl rfl Tryz.func77 (by kernel_rfl) rfl #[.string (rdOf ByteArray.empty t267 x36_3)] rfl (by (try simp only [List.map_toArray, List.map_cons, List.map_nil]); first | done | rfl | (simp only [List.length_drop, List.length_take]; rfl)) ?_; (with_reducible refine (strconv_Atoi.calls (rdOf ByteArray.empty t267 x36_3) t272 (some q274) _ A18.out (globg HT.out (bl HB.out))).mono ?_); rintro e w33 ⟨tp_, p_, rfl, hb⟩; refine ⟨_, rfl, ?_⟩; have n0_ := Aside0.mk (Kd.R_below (kr HO_16.out) hb); have n1_ := Aside0.mk (Kd.R_below (kr HO_34.out) hb); have n2_ := Aside0.mk (below_step (bl HB.out) hb); clear HO_16; clear HO_34; clear HB; have HO_16 := n0_; have HO_34 := n1_; have HB := n2_; clear n0_ n1_ n2_; (try clear hb); (try clear hb2); (try clear hk); (try clear hi); (try simp only [errW_none, errW_some, errV_none, errV_some])))
               go_ret3
               exact ⟨by first | rfl | (simp [errW_none, errW_some, errV_none, errV_some] <;> rfl) | (simp [*, errW_none, errW_some] <;> rfl), bl HB.out⟩
             ·rw [if_neg c17] at H
              exact absurd H (by simp)
            ·rw [if_neg c16] at H
             exact absurd H (by simp)
           ·rw [if_neg c15] at H
            have c15b0 : decide (x36_3 < (t267.length : Int)) = false := decide_eq_false c15
            clear c15
            have H' := Aside0.mk H
            clear H
            go_wp2
            go_roundg k3
            case measure => have := HK1.out; have := HJ8.out; have := HK3.out; omega
            case rel => exact ⟨(x5_3), (x6_3), (wrap64 (x18_1 + 1)), (by first | rfl | (simp; done) | (simp [*]; done)), (by first | rfl | (simp; done) | (simp [*]; done)), (by first | rfl | (simp; done) | (simp [*]; done)), H', ⟨by have := HK1.out; have := HJ8.out; have := HK3.out; omega⟩, ⟨by (with_reducible repeat (first | apply Kd.R_alloc | apply Kd.R_drewN | apply Kd.R_drew)); exact Kd.R_mono HO_16.out (fun _ hk => trivial)⟩, ⟨bl HB.out⟩⟩
     ·rw [if_neg c7] at H
      exact absurd H (by simp)
    ·rw [if_neg c6] at H
     exact absurd H (by simp)
   ·rw [if_neg c5] at H
    have c5b0 : decide (x18_1 < (t263.length : Int)) = false := decide_eq_false c5
    clear c5
    simp only [Option.some.injEq, Prod.mk.injEq] at H
    obtain ⟨rfl, rfl, rfl⟩ := H
    go_wp2
    go_ret3
    exact ⟨by first | rfl | (simp [errW_none, errW_some, errV_none, errV_some] <;> rfl) | (simp [*, errW_none, errW_some] <;> rfl), bl HB.out⟩

-- NOT PRINTED: function 30 (impl_take)

-- NOT PRINTED: function 107 (stringslite_HasPrefix)

-- NOT PRINTED: function 75 (stringslite_CutPrefix)

/-! ### strings_CutPrefix: function 42 -/
def strings_CutPrefix.f (a0 : ByteArray) (a1 : ByteArray) : Option (ByteArray × Bool) := some (⟨(Lib.trimPrefix a0.data.toList a1.data.toList).toArray⟩, Lib.hasPrefix a0.data.toList a1.data.toList)
theorem strings_CutPrefix.calls (a0 : ByteArray) (a1 : ByteArray) (r1 : ByteArray) (r2 : Bool) (w : World) (h : strings_CutPrefix.f a0 a1 = some (r1, r2)) :
  Calls Tryz.prog 42 #[.string a0, .string a1] w fun e w' => e = .returned (.tuple #[.string r1, .bool r2]) ∧ Below w.heap.size w w' := by
 unfold strings_CutPrefix.f at h
 have h := Option.some.inj h
 simp only [Prod.mk.injEq] at h
 obtain ⟨rfl, rfl⟩ := h
 exact trCutPrefix a0 a1 w


/-! ### impl_number: function 44 -/
def impl_number.f (a0 : ByteArray) : Option (Int × Bool) := (strconv_Atoi.f a0).bind fun bt276 => (if bt276.2.isNone = true then ((strconv_Itoa.f bt276.1).bind fun t279 => (if t279.toList = a0.toList then (some (bt276.1, decide (bt276.1 ≥ 0))) else (some (bt276.1, false)))) else (some (bt276.1, false)))
set_option maxHeartbeats 8000000 in
set_option maxRecDepth 100000 in
theorem impl_number.calls (a0 : ByteArray) (r1 : Int) (r2 : Bool) (w : World) (h : impl_number.f a0 = some (r1, r2)) (ht : Glob w) :
  Calls Tryz.prog 44 #[.string a0] w fun e w' => e = .returned (.tuple #[.int .i64 r1, .bool r2]) ∧ Below w.heap.size w w' := by
 have hu91 := Tryz.underlying91
 have HT := Aside0.mk ht
 clear ht
 have HB := Aside0.mk (Below.refl w.heap.size w)
 have H : ((strconv_Atoi.f a0).bind fun bt276 => (if bt276.2.isNone = true then ((strconv_Itoa.f bt276.1).bind fun t279 => (if t279.toList = a0.toList then (some (bt276.1, decide (bt276.1 ≥ 0))) else (some (bt276.1, false)))) else (some (bt276.1, false)))) = some (r1, r2) := h
 clear h
 replace H := Option.bind_eq_some_iff.mp H
 obtain ⟨⟨t276, t277⟩, A20, H⟩ := H
 try dsimp only at H
 have A2 := Aside0.mk A20
 clear A20
 rcases t277 with _ | q278
 ·have H1 : ((strconv_Itoa.f t276).bind fun t279 => (if t279.toList = a0.toList then (some (t276, decide (t276 ≥ 0))) else (some (t276, false)))) = some (r1, r2) := by rw [if_pos (show (none : Option Int).isNone = true by rfl)] at H; exact H
  clear H
  have H := H1
  clear H1
  try simp only [errW_none, errW_some, errV_none, errV_some]
  replace H := Option.bind_eq_some_iff.mp H
  obtain ⟨t279, A30, H⟩ := H
  try dsimp only at H
  have A3 := Aside0.mk A30
  clear A30
  by_cases c4 : t279.toList = a0.toList
  ·rw [if_pos c4] at H
   have c4b0 : (t279.toList == a0.toList) = true := beq_iff_eq.mpr c4
   have c4b1 : (t279.toList != a0.toList) = false := bne_eq_false_iff_eq.mpr c4
   clear c4
   simp only [Option.some.injEq, Prod.mk.injEq] at H
   obtain ⟨rfl, rfl⟩ := H
   go_enter Tryz.func44, Tryz.ntmps44
   go_wp2_with (first | ((with_reducible refine gate_callee (f := 77) rfl ?_); refine goesL_ (some 8) rfl rfl Tryz.func77 (by kernel_rfl) rfl #[.string a0] rfl (by (try simp only [List.map_toArray, List.map_cons, List.map_nil]); first | done | rfl | (simp only [List.length_drop, List.length_take]; rfl)) ?_; (with_reducible refine (strconv_Atoi.calls a0 t276 none _ A2.out (globg HT.out (bl HB.out))).mono ?_); rintro e w5 ⟨tp_, p_, rfl, hb⟩; refine ⟨_, rfl, ?_⟩; have n0_ := Aside0.mk (below_step (bl HB.out) hb); clear HB; have HB := n0_; clear n0_; (try clear hb); (try clear hb2); (try clear hk); (try clear hi); (try simp only [errW_none, errW_some, errV_none, errV_some])) | (go_at_call 78; (with_reducible refine (strconv_Itoa.calls t276 t279 _ A3.out (globg HT.out (bl HB.out))).mono ?_); rintro e w6 ⟨rfl, hb⟩; have n0_ := Aside0.mk (below_step (bl HB.out) hb); clear HB; have HB := n0_; clear n0_; (try clear hb); (try clear hb2); (try clear hk); (try clear hi)))
   go_ret2
   exact ⟨by first | rfl | (simp [errW_none, errW_some, errV_none, errV_some] <;> rfl) | (simp [*, errW_none, errW_some] <;> rfl), bl HB.out⟩
  ·rw [if_neg c4] at H
   have c4b0 : (t279.toList == a0.toList) = false := beq_eq_false_iff_ne.mpr c4
   have c4b1 : (t279.toList != a0.toList) = true := bne_iff_ne.mpr c4
   simp only [Option.some.injEq, Prod.mk.injEq] at H
   obtain ⟨rfl, rfl⟩ := H
   go_enter Tryz.func44, Tryz.ntmps44
   go_wp2_with (first | ((with_reducible refine gate_callee (f := 77) rfl ?_); refine goesL_ (some 8) rfl rfl Tryz.func77 (by kernel_rfl) rfl #[.string a0] rfl (by (try simp only [List.map_toArray, List.map_cons, List.map_nil]); first | done | rfl | (simp only [List.length_drop, List.length_take]; rfl)) ?_; (with_reducible refine (strconv_Atoi.calls a0 t276 none _ A2.out (globg HT.out (bl HB.out))).mono ?_); rintro e w7 ⟨tp_, p_, rfl, hb⟩; refine ⟨_, rfl, ?_⟩; have n0_ := Aside0.mk (below_step (bl HB.out) hb); clear HB; have HB := n0_; clear n0_; (try clear hb); (try clear hb2); (try clear hk); (try clear hi); (try simp only [errW_none, errW_some, errV_none, errV_some])) | (go_at_call 78; (with_reducible refine (strconv_Itoa.calls t276 t279 _ A3.out (globg HT.out (bl HB.out))).mono ?_); rintro e w8 ⟨rfl, hb⟩; have n0_ := Aside0.mk (below_step (bl HB.out) hb); clear HB; have HB := n0_; clear n0_; (try clear hb); (try clear hb2); (try clear hk); (try clear hi)))
   go_ret2
   exact ⟨by first | rfl | (simp [errW_none, errW_some, errV_none, errV_some] <;> rfl) | (simp [*, errW_none, errW_some] <;> rfl), bl HB.out⟩
 ·have H1 : (some (t276, false)) = some (r1, r2) := by rw [if_neg (show ¬ (some q278).isNone = true by simp)] at H; exact H
  clear H
  have H := H1
  clear H1
  try simp only [errW_none, errW_some, errV_none, errV_some]
  simp only [Option.some.injEq, Prod.mk.injEq] at H
  obtain ⟨rfl, rfl⟩ := H
  go_enter Tryz.func44, Tryz.ntmps44
  go_wp2_with (first | ((with_reducible refine gate_callee (f := 77) rfl ?_); refine goesL_ (some 8) rfl rfl Tryz.func77 (by kernel_rfl) rfl #[.string a0] rfl (by (try simp only [List.map_toArray, List.map_cons, List.map_nil]); first | done | rfl | (simp only [List.length_drop, List.length_take]; rfl)) ?_; (with_reducible refine (strconv_Atoi.calls a0 t276 (some q278) _ A2.out (globg HT.out (bl HB.out))).mono ?_); rintro e w9 ⟨tp_, p_, rfl, hb⟩; refine ⟨_, rfl, ?_⟩; have n0_ := Aside0.mk (below_step (bl HB.out) hb); clear HB; have HB := n0_; clear n0_; (try clear hb); (try clear hb2); (try clear hk); (try clear hi); (try simp only [errW_none, errW_some, errV_none, errV_some])))
  go_ret2
  exact ⟨by first | rfl | (simp [errW_none, errW_some, errV_none, errV_some] <;> rfl) | (simp [*, errW_none, errW_some] <;> rfl), bl HB.out⟩

/-! ### impl_isResponseLine: function 45 -/
def impl_isResponseLine.f (a0_0 : Int) (a0_1 : ByteArray) (l0_2 : List (S75)) (a0_3 : ByteArray) : Option (Bool) := (impl_within.f a0_0 100 599).bind fun t281 => (if t281 = true then ((impl_isPrinted.f a0_1 40).bind fun t282 => (some t282)) else (some false))
set_option maxHeartbeats 8000000 in
set_option maxRecDepth 100000 in
theorem impl_isResponseLine.calls (a0_0 : Int) (a0_1 : ByteArray) (A0_2 : Option Addr) (c0_2 : Nat) (l0_2 : List (S75)) (a0_3 : ByteArray) (r : Bool) (w : World) (hr0_2 : Kd.C k75 w A0_2 l0_2.length l0_2) (hc0_2 : l0_2.length ≤ c0_2) (h : impl_isResponseLine.f a0_0 a0_1 l0_2 a0_3 = some r) :
  Calls Tryz.prog 45 #[.agg #[.int .i64 a0_0, .string a0_1, .slice A0_2 l0_2.length c0_2, .string a0_3]] w fun e w' => e = .returned (.bool r) ∧ Below w.heap.size w w' := by
 have hu31 := Tryz.underlying31
 have HR0_2 := Aside0.mk hr0_2
 have HC0_2 := Aside0.mk hc0_2
 clear hr0_2 hc0_2
 have HB := Aside0.mk (Below.refl w.heap.size w)
 have H : ((impl_within.f a0_0 100 599).bind fun t281 => (if t281 = true then ((impl_isPrinted.f a0_1 40).bind fun t282 => (some t282)) else (some false))) = some r := h
 clear h
 replace H := Option.bind_eq_some_iff.mp H
 obtain ⟨t281, A20, H⟩ := H
 try dsimp only at H
 have A2 := Aside0.mk A20
 clear A20
 by_cases c3 : t281 = true
 ·subst c3
  have H1 : ((impl_isPrinted.f a0_1 40).bind fun t282 => (some t282)) = some r := by rw [if_pos rfl] at H; exact H
  clear H
  have H := H1
  clear H1
  replace H := Option.bind_eq_some_iff.mp H
  obtain ⟨t282, A40, H⟩ := H
  try dsimp only at H
  have A4 := Aside0.mk A40
  clear A40
  obtain rfl := Option.some.inj H
  go_enter Tryz.func45, Tryz.ntmps45
  go_wp2_with (first | ((with_reducible refine gate_dst (N := 1) rfl ?_); refine box_event ?hg (N := 1) ?hd (cs := #[.int .i64 a0_0, .string a0_1, .slice A0_2 l0_2.length c0_2, .string a0_3]) (t := 31) ?hr ?_; (case hd => rfl); (case hg => rfl); (case hr => first | (go_simp; done) | (go_simp; rfl)); intro gb280 hg w5 hbox hb; have n0_ := Aside0.mk (below_step (bl HB.out) hb); have n1_ := Aside0.mk (hbox); have n2_ := Aside0.mk ((by rw [hg]; exact (below_size (bl HB.out)) : w.heap.size ≤ gb280)); have n3_ := Aside0.mk ((by rw [hg]; exact (below_size (bl HB.out)) : w.heap.size ≤ gb280)); clear HB; have HB := n0_; have BK280 := n1_; have GW280 := n2_; have GE280 := n3_; clear n0_ n1_ n2_ n3_; clear hb hbox hg; have hcz6_0 : w5.cell? ⟨gb280, 0, none⟩ = some (.int .i64 a0_0) := (blk_cell BK280.out 0).trans rfl; have hcz6_1 : w5.cell? ⟨gb280, 1, none⟩ = some (.string a0_1) := (blk_cell BK280.out 1).trans rfl; have hcz6_2 : w5.cell? ⟨gb280, 2, none⟩ = some (.slice A0_2 l0_2.length c0_2) := (blk_cell BK280.out 2).trans rfl; have hcz6_3 : w5.cell? ⟨gb280, 3, none⟩ = some (.string a0_3) := (blk_cell BK280.out 3).trans rfl; have hfz6_0 := blk_frozen BK280.out 0; have hfz6_1 := blk_frozen BK280.out 1; have hfz6_2 := blk_frozen BK280.out 2; have hfz6_3 := blk_frozen BK280.out 3) | ((with_reducible refine gate_callee (f := 79) rfl ?_); refine goesL_ (some 5) rfl rfl Tryz.func79 (by kernel_rfl) rfl #[.int .i64 a0_0, .int .i64 100, .int .i64 599] rfl (by (try simp only [List.map_toArray, List.map_cons, List.map_nil]); first | done | rfl | (simp only [List.length_drop, List.length_take]; rfl)) ?_; (with_reducible refine (impl_within.calls a0_0 100 599 true _ A2.out).mono ?_); rintro e w' ⟨rfl, ⟨nd, rfl⟩⟩; refine ⟨_, rfl, ?_⟩) | (go_at_call 80; (with_reducible refine (impl_isPrinted.calls a0_1 40 t282 _ A4.out).mono ?_); rintro e w7 ⟨rfl, hb⟩; have n0_ := Aside0.mk (blk_below (g := gb280) (o := .cells #[.int .i64 a0_0, .string a0_1, .slice A0_2 l0_2.length c0_2, .string a0_3] 31 (0, 0)) (bk BK280.out) hb); have n1_ := Aside0.mk (below_step (bl1 HB.out GE280.out) hb); clear BK280; clear HB; have BK280 := n0_; have HB := n1_; clear n0_ n1_; (try clear hb); (try clear hb2); (try clear hk); (try clear hi)))
  go_ret
  exact ⟨by first | rfl | (simp [errW_none, errW_some] <;> rfl) | (simp [*, errW_none, errW_some] <;> rfl), bl1 HB.out GE280.out⟩
 ·replace c3 := Bool.eq_false_iff.mpr c3
  subst c3
  have H1 : (some false) = some r := by rw [if_neg (show ¬ (false = true) by decide)] at H; exact H
  clear H
  have H := H1
  clear H1
  obtain rfl := Option.some.inj H
  go_enter Tryz.func45, Tryz.ntmps45
  go_wp2_with (first | ((with_reducible refine gate_dst (N := 1) rfl ?_); refine box_event ?hg (N := 1) ?hd (cs := #[.int .i64 a0_0, .string a0_1, .slice A0_2 l0_2.length c0_2, .string a0_3]) (t := 31) ?hr ?_; (case hd => rfl); (case hg => rfl); (case hr => first | (go_simp; done) | (go_simp; rfl)); intro gb280 hg w8 hbox hb; have n0_ := Aside0.mk (below_step (bl HB.out) hb); have n1_ := Aside0.mk (hbox); have n2_ := Aside0.mk ((by rw [hg]; exact (below_size (bl HB.out)) : w.heap.size ≤ gb280)); have n3_ := Aside0.mk ((by rw [hg]; exact (below_size (bl HB.out)) : w.heap.size ≤ gb280)); clear HB; have HB := n0_; have BK280 := n1_; have GW280 := n2_; have GE280 := n3_; clear n0_ n1_ n2_ n3_; clear hb hbox hg; have hcz9_0 : w8.cell? ⟨gb280, 0, none⟩ = some (.int .i64 a0_0) := (blk_cell BK280.out 0).trans rfl; have hcz9_1 : w8.cell? ⟨gb280, 1, none⟩ = some (.string a0_1) := (blk_cell BK280.out 1).trans rfl; have hcz9_2 : w8.cell? ⟨gb280, 2, none⟩ = some (.slice A0_2 l0_2.length c0_2) := (blk_cell BK280.out 2).trans rfl; have hcz9_3 : w8.cell? ⟨gb280, 3, none⟩ = some (.string a0_3) := (blk_cell BK280.out 3).trans rfl; have hfz9_0 := blk_frozen BK280.out 0; have hfz9_1 := blk_frozen BK280.out 1; have hfz9_2 := blk_frozen BK280.out 2; have hfz9_3 := blk_frozen BK280.out 3) | ((with_reducible refine gate_callee (f := 79) rfl ?_); refine goesL_ (some 5) rfl rfl Tryz.func79 (by kernel_rfl) rfl #[.int .i64 a0_0, .int .i64 100, .int .i64 599] rfl (by (try simp only [List.map_toArray, List.map_cons, List.map_nil]); first | done | rfl | (simp only [List.length_drop, List.length_take]; rfl)) ?_; (with_reducible refine (impl_within.calls a0_0 100 599 false _ A2.out).mono ?_); rintro e w' ⟨rfl, ⟨nd, rfl⟩⟩; refine ⟨_, rfl, ?_⟩))
  go_ret
  exact ⟨by first | rfl | (simp [errW_none, errW_some] <;> rfl) | (simp [*, errW_none, errW_some] <;> rfl), bl1 HB.out GE280.out⟩

-- NOT PRINTED: function 41 (impl_TakeResponse_1)

end Go.Proofs.YthneflfbafieeaaGreatDoor.PFnExactTakeResponse
