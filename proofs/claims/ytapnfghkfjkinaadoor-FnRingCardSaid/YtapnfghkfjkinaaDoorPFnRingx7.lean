-- written by a program of this session (wip/tool)
import Derived.Test.YtapnfghkfjkinaaDoorPFnRingx0
import Derived.Test.YtapnfghkfjkinaaDoorPFnRingx2
import Derived.Test.YtapnfghkfjkinaaDoorPFnRingx3
import Derived.Test.YtapnfghkfjkinaaDoorPFnRingx4
import Derived.Test.YtapnfghkfjkinaaDoorPFnRingx5
import Derived.Test.YtapnfghkfjkinaaDoorPFnRingx6
import Derived.Test.YtapnfghkfjkinaaDoorOwn0
import Derived.Test.YtapnfghkfjkinaaDoorOwnOpen
import Derived.Test.YtapnfghkfjkinaaDoorOwnRg
import Derived.WalkKit
import Derived.BigCall
import Derived.Deep.QuietTactic
namespace Go.Proofs.YtapnfghkfjkinaaDoor.PFnRing
open Go.RowKit Go.Proofs.YtapnfghkfjkinaaDoorW.PrintWords Go.Proofs.YtapnfghkfjkinaaDoorW.PrintLast Go.Proofs.YtapnfghkfjkinaaDoorW.PrintMore Go.Shelf Go.Proofs.YtapnfghkfjkinaaDoorOwn
attribute [local go_sem] max2_int min2_int max_two min_two max_three min_three max_four min_four   -- for this text's walks alone
set_option linter.unusedVariables false
set_option linter.unusedSimpArgs false

/-! ### laws_numberOf: function 7 -/
def laws_numberOf.l0 : Nat → Int → List Int → Int → Int → Option (Int)
  | 0, _, _, _, _ => none
  | k + 1, x3, x6, x7, x8 => if x8 < x7 then (if 0 ≤ x8 then (if x8 < (x6.length : Int) then (laws_numberOf.l0 k (Int.tmod (wrap64 ((wrap64 (31 * x3)) + (wrap64 (rd x6 x8)))) 1000003) x6 x7 (wrap64 (x8 + 1))) else (none)) else (none)) else (some x3)
def laws_numberOf.f (k : Nat) (l0 : List Int) : Option (Int) := laws_numberOf.l0 k 0 l0 (l0.length : Int) 0
theorem laws_numberOf.mono_l : ∀ k, (∀ y0 y1 y2 y3, LeO (laws_numberOf.l0 k y0 y1 y2 y3) (laws_numberOf.l0 (k + 1) y0 y1 y2 y3))
  | 0 => fun _ _ _ _ r h => by simp [laws_numberOf.l0] at h
  | k + 1 => by
    have ih0 := laws_numberOf.mono_l k
    · intro y0 y1 y2 y3
      unfold laws_numberOf.l0
      repeat' first
      | (with_reducible exact ih0 _ _ _ _)
      | (with_reducible exact LeO.refl _)
      | (with_reducible exact LeO.none _)
      | (with_reducible refine LeO.ite ?_ ?_)
      | (with_reducible refine LeO.bind ?_ (fun _ => ?_))
      | exact ih0 _ _ _ _
      | exact LeO.none _
      | refine LeO.ite ?_ ?_
      | refine LeO.bind ?_ (fun _ => ?_)
theorem laws_numberOf.mono : ∀ a0 k, LeO (laws_numberOf.f k a0) (laws_numberOf.f (k + 1) a0) := by
  intro a0 k
  have ih0 := laws_numberOf.mono_l k
  unfold laws_numberOf.f
  repeat' first
      | (with_reducible exact ih0 _ _ _ _)
      | (with_reducible exact LeO.refl _)
      | (with_reducible exact LeO.none _)
      | (with_reducible refine LeO.ite ?_ ?_)
      | (with_reducible refine LeO.bind ?_ (fun _ => ?_))
      | exact ih0 _ _ _ _
      | exact LeO.none _
      | refine LeO.ite ?_ ?_
      | refine LeO.bind ?_ (fun _ => ?_)
set_option maxHeartbeats 8000000 in
set_option maxRecDepth 100000 in
theorem laws_numberOf.calls (k : Nat) (A0 : Option Addr) (c0 : Nat) (l0 : List Int) (r : Int) (w : World) (hr0 : Kd.C (Kd.int .u8) w A0 l0.length l0) (hc0 : l0.length ≤ c0) (h : laws_numberOf.f k l0 = some r) :
    Calls Tryd.prog 7 #[.slice A0 l0.length c0] w fun e w' => e = .returned (.int .i64 r) ∧ Drawn0 w w' := by
  have HR0 := Aside0.mk hr0
  have HC0 := Aside0.mk hc0
  clear hr0 hc0
  have H : (laws_numberOf.l0 k 0 l0 (l0.length : Int) 0) = some r := h
  clear h
  have H' := Aside0.mk H
  clear H
  go_enter Tryd.func7, Tryd.ntmps7
  go_wp2
  go_loopg [3, 8] k (fun kq v3 v8 w' => ∃ (x3_1 : Int) (x8_1 : Int), v3 = .int .i64 x3_1 ∧ v8 = .int .i64 x8_1 ∧ Aside0 (laws_numberOf.l0 kq x3_1 l0 (l0.length : Int) x8_1 = some r) ∧ Aside0 (kq ≤ k) ∧ Drawn0 w w')
  case atStart => exact ⟨(0), (0), (by first | rfl | (simp; done) | (simp [*]; done)), (by first | rfl | (simp; done) | (simp [*]; done)), H', ⟨Nat.le_refl _⟩, by repeat (first | exact Drawn0.refl _ | apply Drawn0.step)⟩
  case round =>
    clear H'
    obtain ⟨x3_1, x8_1, rfl, rfl, HA, HK1, ⟨m1, rfl⟩⟩ := hrel
    cases gk with
    | zero => exact absurd HA.out (by simp [laws_numberOf.l0])
    | succ k1 =>
      have H := HA.out
      clear HA
      simp only [laws_numberOf.l0] at H
      by_cases c2 : x8_1 < (l0.length : Int)
      · rw [if_pos c2] at H
        have c2b0 : decide (x8_1 < (l0.length : Int)) = true := decide_eq_true c2
        clear c2
        by_cases c3 : 0 ≤ x8_1
        · rw [if_pos c3] at H
          have c3b0 : decide (0 ≤ x8_1) = true := decide_eq_true c3
          clear c3
          by_cases c4 : x8_1 < (l0.length : Int)
          · rw [if_pos c4] at H
            have c4b0 : decide (x8_1 < (l0.length : Int)) = true := decide_eq_true c4
            clear c4
            have H' := Aside0.mk H
            clear H
            have p227 : 0 ≤ (x8_1 : Int) := of_decide_eq_true (by first | (with_reducible assumption) | assumption)
            have q227 : x8_1 < (l0.length : Int) := of_decide_eq_true (by first | (with_reducible assumption) | assumption)
            obtain ⟨ad227, e227, hx227_0⟩ := Kd.at_int HR0.out x8_1 p227 q227
            cases e227
            replace p227 := eq_true p227
            replace q227 := eq_true q227
            go_wp2
            go_roundg k1
            case measure => have := HK1.out; omega
            case rel => exact ⟨(Int.tmod (wrap64 ((wrap64 (31 * x3_1)) + (wrap64 (rd l0 x8_1)))) 1000003), (wrap64 (x8_1 + 1)), (by first | rfl | (simp; done) | (simp [*]; done)), (by first | rfl | (simp; done) | (simp [*]; done)), H', ⟨by have := HK1.out; omega⟩, by repeat (first | exact Drawn0.refl _ | apply Drawn0.step)⟩
          · rw [if_neg c4] at H
            exact absurd H (by simp)
        · rw [if_neg c3] at H
          exact absurd H (by simp)
      · rw [if_neg c2] at H
        have c2b0 : decide (x8_1 < (l0.length : Int)) = false := decide_eq_false c2
        clear c2
        obtain rfl := Option.some.inj H
        go_wp2
        go_ret
        exact ⟨by first | rfl | (simp; done) | (simp [*]; done), by repeat (first | exact Drawn0.refl _ | apply Drawn0.step)⟩

/-! ### spec_l1Cur_of: function 42 -/
def spec_l1Cur_of.f (s0_0 : List Int) (s0_1 : Int) (s0_2 : Int) (l1 : List ByteArray) : Option (ByteArray × Int × Int) := (spec_l1Cur_pick.f s0_0 s0_1 s0_2 (l1.length : Int)).bind fun bt228 => (if 0 ≤ bt228.1 then (if bt228.1 < (l1.length : Int) then (some (rdOf ByteArray.empty l1 bt228.1, bt228.2.1, bt228.2.2)) else (none)) else (none))
set_option maxHeartbeats 8000000 in
set_option maxRecDepth 100000 in
theorem spec_l1Cur_of.calls (g : Nat) (s0_0 : List Int) (s0_1 : Int) (s0_2 : Int) (A1 : Option Addr) (c1 : Nat) (l1 : List ByteArray) (r1 : ByteArray) (r2 : Int) (r3 : Int) (w0 w : World) (hI : IsS41 w0 w g s0_0 s0_1 s0_2) (hB : Below w0.heap.size w0 w) (hr1 : Kd.C Kd.string w A1 l1.length l1) (hc1 : l1.length ≤ c1) (hf1 : ∀ ad, A1 = some ad → 0 < l1.length → ad.block ≠ g) (h : spec_l1Cur_of.f s0_0 s0_1 s0_2 l1 = some (r1, r2, r3)) :
    Calls Tryd.prog 42 #[.pointer (some ⟨g, 0, none⟩), .slice A1 l1.length c1] w fun e w' => e = .returned (.string r1) ∧ IsS41 w0 w' g s0_0 r2 r3 ∧ Below w0.heap.size w0 w' ∧ KeepBut w w' g none := by
  have HR1 := Aside0.mk hr1
  have HC1 := Aside0.mk hc1
  clear hr1 hc1
  have HI0 := Aside0.mk hI
  have HK := Aside0.mk (KeepBut.refl w g none)
  have HL := Aside0.mk hB.size
  clear hI
  have HW0 := Aside0.mk hB.size
  have HB := Aside0.mk hB
  clear hB
  have H : ((spec_l1Cur_pick.f s0_0 s0_1 s0_2 (l1.length : Int)).bind fun bt228 => (if 0 ≤ bt228.1 then (if bt228.1 < (l1.length : Int) then (some (rdOf ByteArray.empty l1 bt228.1, bt228.2.1, bt228.2.2)) else (none)) else (none))) = some (r1, r2, r3) := h
  clear h
  replace H := Option.bind_eq_some_iff.mp H
  obtain ⟨⟨t228, t229, t230⟩, A30, H⟩ := H
  replace H : (if 0 ≤ t228 then (if t228 < (l1.length : Int) then (some (rdOf ByteArray.empty l1 t228, t229, t230)) else (none)) else (none)) = some (r1, r2, r3) := H
  have A3 := Aside0.mk A30
  clear A30
  by_cases c4 : 0 ≤ t228
  · rw [if_pos c4] at H
    have c4b0 : decide (0 ≤ t228) = true := decide_eq_true c4
    clear c4
    by_cases c5 : t228 < (l1.length : Int)
    · rw [if_pos c5] at H
      have c5b0 : decide (t228 < (l1.length : Int)) = true := decide_eq_true c5
      clear c5
      simp only [Option.some.injEq, Prod.mk.injEq] at H
      obtain ⟨rfl, rfl, rfl⟩ := H
      go_enter Tryd.func42, Tryd.ntmps42
      go_wp2_with (first | ((with_reducible refine gate_callee (f := 12) rfl ?_); refine goesL_ (some 9) rfl rfl Tryd.func12 (by kernel_rfl) rfl #[.pointer (some ⟨g, 0, none⟩), .int .i64 (l1.length : Int)] rfl (by (try simp only [List.map_toArray, List.map_cons, List.map_nil]); first | done | rfl | (simp only [List.length_drop, List.length_take]; rfl)) ?_; (with_reducible refine (spec_l1Cur_pick.calls g s0_0 s0_1 s0_2 (l1.length : Int) t228 t229 t230 w0 _ ?side1 ?side2 A3.out).mono ?_); (case side1 => repeat (first | (with_reducible first | exact HI0.out | apply IsS41.alloc | apply IsS41.drewN | apply IsS41.drew | apply IsS41.set_1 | apply IsS41.set_2) | exact HI0.out)); (case side2 => repeat (first | (with_reducible first | exact HB.out | apply below_alloc | apply pw_below_drewN | apply below_drew1 | refine below_set ?_ (IsS41.ge HI0.out)) | exact HB.out)); rintro e w6 ⟨rfl, hi, hb, hk⟩; refine ⟨_, rfl, ?_⟩; have n0_ := Aside0.mk (KeepBut.trans (by repeat (first | (with_reducible first | exact HK.out | apply KeepBut.set_ | apply keep_drewN | apply keep_drew | apply keep_alloc) | exact HK.out)) hk (.inl rfl)); have n1_ := Aside0.mk (hb); have n2_ := Aside0.mk (hi); clear HK; clear HB; clear HI0; have HK := n0_; have HB := n1_; have HI0 := n2_; clear n0_ n1_ n2_; (try clear hb); (try clear hb2); (try clear hk); (try clear hi); have p231 : 0 ≤ (t228 : Int) := of_decide_eq_true (by first | (with_reducible assumption) | assumption); have q231 : t228 < (l1.length : Int) := of_decide_eq_true (by first | (with_reducible assumption) | assumption); obtain ⟨ad231, e231, hx231_0⟩ := Kd.at_string HR1.out t228 p231 q231; cases e231; replace hx231_0 := keep_cell HK.out hx231_0 (by first | (rw [add_block]; exact hf1 _ rfl (by omega)) | exact hf1 _ rfl (by omega) | exact hf1 ad231 rfl (by omega)); replace p231 := eq_true p231; replace q231 := eq_true q231))
      go_ret
      exact ⟨by first | rfl | (simp [errW_none, errW_some] <;> rfl) | (simp [*, errW_none, errW_some] <;> rfl), by repeat (first | (with_reducible first | exact HI0.out | apply IsS41.alloc | apply IsS41.drewN | apply IsS41.drew | apply IsS41.set_1 | apply IsS41.set_2) | exact HI0.out), by repeat (first | (with_reducible first | exact HB.out | apply below_alloc | apply pw_below_drewN | apply below_drew1 | refine below_set ?_ (IsS41.ge HI0.out)) | exact HB.out), by repeat (first | (with_reducible first | exact HK.out | apply KeepBut.set_ | apply keep_drewN | apply keep_drew | apply keep_alloc) | exact HK.out)⟩
    · rw [if_neg c5] at H
      exact absurd H (by simp)
  · rw [if_neg c4] at H
    exact absurd H (by simp)

/-! ### spec_l1Cur_ringKey: function 25 -/
def spec_l1Cur_ringKey.f (k : Nat) (s0_0 : List Int) (s0_1 : Int) (s0_2 : Int) : Option (ByteArray × Int × Int) := (spec_l1Cur_pick.f s0_0 s0_1 s0_2 99).bind fun bt232 => ((spec_l1Num.f k bt232.1).bind fun t235 => (if 1 + t235.size ≤ 9223372036854775807 then ((spec_l1Cur_of.f s0_0 bt232.2.1 bt232.2.2 (([(⟨#[]⟩ : ByteArray), (⟨#[97]⟩ : ByteArray), (⟨#[98]⟩ : ByteArray), (⟨#[104, 116, 116, 112, 58, 47, 47, 104, 47, 97]⟩ : ByteArray), (⟨#[107]⟩ : ByteArray) ++ t235] : List ByteArray))).bind fun bt239 => (some (bt239.1, bt239.2.1, bt239.2.2))) else (none)))
theorem spec_l1Cur_ringKey.mono : ∀ a0 a1 a2 k, LeO (spec_l1Cur_ringKey.f k a0 a1 a2) (spec_l1Cur_ringKey.f (k + 1) a0 a1 a2) := by
  intro a0 a1 a2 k
  unfold spec_l1Cur_ringKey.f
  repeat' first
      | (with_reducible exact spec_l1Num.mono _ _)
      | (with_reducible exact LeO.refl _)
      | (with_reducible exact LeO.none _)
      | (with_reducible refine LeO.ite ?_ ?_)
      | (with_reducible refine LeO.bind ?_ (fun _ => ?_))
      | exact spec_l1Num.mono _ _
      | exact LeO.none _
      | refine LeO.ite ?_ ?_
      | refine LeO.bind ?_ (fun _ => ?_)
set_option maxHeartbeats 8000000 in
set_option maxRecDepth 100000 in
theorem spec_l1Cur_ringKey.calls (k : Nat) (g : Nat) (s0_0 : List Int) (s0_1 : Int) (s0_2 : Int) (r1 : ByteArray) (r2 : Int) (r3 : Int) (w0 w : World) (hI : IsS41 w0 w g s0_0 s0_1 s0_2) (hB : Below w0.heap.size w0 w) (h : spec_l1Cur_ringKey.f k s0_0 s0_1 s0_2 = some (r1, r2, r3)) :
    Calls Tryd.prog 25 #[.pointer (some ⟨g, 0, none⟩)] w fun e w' => e = .returned (.string r1) ∧ IsS41 w0 w' g s0_0 r2 r3 ∧ Below w0.heap.size w0 w' ∧ KeepBut w w' g none := by
  have HI0 := Aside0.mk hI
  have HK := Aside0.mk (KeepBut.refl w g none)
  have HL := Aside0.mk hB.size
  clear hI
  have HW0 := Aside0.mk hB.size
  have HB := Aside0.mk hB
  clear hB
  have H : ((spec_l1Cur_pick.f s0_0 s0_1 s0_2 99).bind fun bt232 => ((spec_l1Num.f k bt232.1).bind fun t235 => (if 1 + t235.size ≤ 9223372036854775807 then ((spec_l1Cur_of.f s0_0 bt232.2.1 bt232.2.2 (([(⟨#[]⟩ : ByteArray), (⟨#[97]⟩ : ByteArray), (⟨#[98]⟩ : ByteArray), (⟨#[104, 116, 116, 112, 58, 47, 47, 104, 47, 97]⟩ : ByteArray), (⟨#[107]⟩ : ByteArray) ++ t235] : List ByteArray))).bind fun bt239 => (some (bt239.1, bt239.2.1, bt239.2.2))) else (none)))) = some (r1, r2, r3) := h
  clear h
  replace H := Option.bind_eq_some_iff.mp H
  obtain ⟨⟨t232, t233, t234⟩, A20, H⟩ := H
  replace H : ((spec_l1Num.f k t232).bind fun t235 => (if 1 + t235.size ≤ 9223372036854775807 then ((spec_l1Cur_of.f s0_0 t233 t234 (([(⟨#[]⟩ : ByteArray), (⟨#[97]⟩ : ByteArray), (⟨#[98]⟩ : ByteArray), (⟨#[104, 116, 116, 112, 58, 47, 47, 104, 47, 97]⟩ : ByteArray), (⟨#[107]⟩ : ByteArray) ++ t235] : List ByteArray))).bind fun bt239 => (some (bt239.1, bt239.2.1, bt239.2.2))) else (none))) = some (r1, r2, r3) := H
  have A2 := Aside0.mk A20
  clear A20
  replace H := Option.bind_eq_some_iff.mp H
  obtain ⟨t235, A30, H⟩ := H
  replace H : (if 1 + t235.size ≤ 9223372036854775807 then ((spec_l1Cur_of.f s0_0 t233 t234 (([(⟨#[]⟩ : ByteArray), (⟨#[97]⟩ : ByteArray), (⟨#[98]⟩ : ByteArray), (⟨#[104, 116, 116, 112, 58, 47, 47, 104, 47, 97]⟩ : ByteArray), (⟨#[107]⟩ : ByteArray) ++ t235] : List ByteArray))).bind fun bt239 => (some (bt239.1, bt239.2.1, bt239.2.2))) else (none)) = some (r1, r2, r3) := H
  have A3 := Aside0.mk A30
  clear A30
  by_cases c4 : 1 + t235.size ≤ 9223372036854775807
  · rw [if_pos c4] at H
    have c4b0 := eq_true c4
    have c4b1 : decide (1 + t235.size ≤ 9223372036854775807) = true := decide_eq_true c4
    try have c4b2 : (9223372036854775807 < 1 + t235.size) = False := eq_false (Nat.not_lt.2 c4)
    obtain ⟨y236, hy236⟩ : ∃ y_ : List ByteArray, y_ = (([(⟨#[]⟩ : ByteArray), (⟨#[97]⟩ : ByteArray), (⟨#[98]⟩ : ByteArray), (⟨#[104, 116, 116, 112, 58, 47, 47, 104, 47, 97]⟩ : ByteArray), (⟨#[107]⟩ : ByteArray) ++ t235] : List ByteArray)) := ⟨_, rfl⟩
    replace H : ((spec_l1Cur_of.f s0_0 t233 t234 y236).bind fun bt239 => (some (bt239.1, bt239.2.1, bt239.2.2))) = some (r1, r2, r3) := by first | (rw [hy236]; with_reducible exact H) | (have H2_ := (Option.bind_some _ _).symm.trans H; rw [hy236]; with_reducible exact H2_) | (have H2_ := (Option.bind_some _ _).symm.trans H; with_reducible exact H2_) | with_reducible exact H | (rw [hy236]; exact H) | exact H
    have Ny236 := Aside0.mk hy236
    clear hy236
    replace H := Option.bind_eq_some_iff.mp H
    obtain ⟨⟨t239, t240, t241⟩, A50, H⟩ := H
    replace H : (some (t239, t240, t241)) = some (r1, r2, r3) := H
    have A5 := Aside0.mk A50
    clear A50
    simp only [Option.some.injEq, Prod.mk.injEq] at H
    obtain ⟨rfl, rfl, rfl⟩ := H
    go_enter Tryd.func25, Tryd.ntmps25
    go_wp2_with (first | ((with_reducible refine gate_callee (f := 12) rfl ?_); refine goesL_ (some 5) rfl rfl Tryd.func12 (by kernel_rfl) rfl #[.pointer (some ⟨g, 0, none⟩), .int .i64 99] rfl (by (try simp only [List.map_toArray, List.map_cons, List.map_nil]); first | done | rfl | (simp only [List.length_drop, List.length_take]; rfl)) ?_; (with_reducible refine (spec_l1Cur_pick.calls g s0_0 s0_1 s0_2 99 t232 t233 t234 w0 _ ?side1 ?side2 A2.out).mono ?_); (case side1 => repeat (first | (with_reducible first | exact HI0.out | apply IsS41.alloc | apply IsS41.drewN | apply IsS41.drew | apply IsS41.set_1 | apply IsS41.set_2) | exact HI0.out)); (case side2 => repeat (first | (with_reducible first | exact HB.out | apply below_alloc | apply pw_below_drewN | apply below_drew1 | refine below_set ?_ (IsS41.ge HI0.out)) | exact HB.out)); rintro e w6 ⟨rfl, hi, hb, hk⟩; refine ⟨_, rfl, ?_⟩; have n0_ := Aside0.mk (KeepBut.trans (by repeat (first | (with_reducible first | exact HK.out | apply KeepBut.set_ | apply keep_drewN | apply keep_drew | apply keep_alloc) | exact HK.out)) hk (.inl rfl)); have n1_ := Aside0.mk (hb); have n2_ := Aside0.mk (hi); clear HK; clear HB; clear HI0; have HK := n0_; have HB := n1_; have HI0 := n2_; clear n0_ n1_ n2_; (try clear hb); (try clear hb2); (try clear hk); (try clear hi)) | ((with_reducible refine gate_callee (f := 22) rfl ?_); refine goesL_ (some 6) rfl rfl Tryd.func22 (by kernel_rfl) rfl #[.int .i64 t232] rfl (by (try simp only [List.map_toArray, List.map_cons, List.map_nil]); first | done | rfl | (simp only [List.length_drop, List.length_take]; rfl)) ?_; (with_reducible refine (spec_l1Num.calls k t232 t235 _ A3.out).mono ?_); rintro e w7 ⟨rfl, hb⟩; refine ⟨_, rfl, ?_⟩; have n0_ := Aside0.mk (IsS41.below (by repeat (first | (with_reducible first | exact HI0.out | apply IsS41.alloc | apply IsS41.drewN | apply IsS41.drew | apply IsS41.set_1 | apply IsS41.set_2) | exact HI0.out)) hb); have n1_ := Aside0.mk (KeepBut.trans (by repeat (first | (with_reducible first | exact HK.out | apply KeepBut.set_ | apply keep_drewN | apply keep_drew | apply keep_alloc) | exact HK.out)) (KeepBut.of_below hb g none) (.inl rfl)); have n2_ := Aside0.mk (below_step (by repeat (first | (with_reducible first | exact HB.out | apply below_alloc | apply pw_below_drewN | apply below_drew1 | refine below_set ?_ (IsS41.ge HI0.out)) | exact HB.out)) hb); clear HI0; clear HK; clear HB; have HI0 := n0_; have HK := n1_; have HB := n2_; clear n0_ n1_ n2_; (try clear hb); (try clear hb2); (try clear hk); (try clear hi)) | ((with_reducible refine gate_dst (N := 8) rfl ?_); refine Kd.R_lit Kd.string _ 9 ?hg (N := 8) ?hd (xs := ([(⟨#[]⟩ : ByteArray), (⟨#[97]⟩ : ByteArray), (⟨#[98]⟩ : ByteArray), (⟨#[104, 116, 116, 112, 58, 47, 47, 104, 47, 97]⟩ : ByteArray), (⟨#[107]⟩ : ByteArray) ++ t235] : List ByteArray)) (inner := [.string (⟨#[]⟩ : ByteArray), .string (⟨#[97]⟩ : ByteArray), .string (⟨#[98]⟩ : ByteArray), .string (⟨#[104, 116, 116, 112, 58, 47, 47, 104, 47, 97]⟩ : ByteArray), .string ((⟨#[107]⟩ : ByteArray) ++ t235)]) (ok := fun _ => True) (okp := fun _ => True) ?hr ?hp (fun _ hk => hk) trivial (Below.refl _ _) (Nat.le_refl _) (by simp) ?_; (case hd => rfl); (case hg => rfl); (case hr => first | (go_simp; done) | (go_simp; rfl)); (case hp => exact (Reps.one (show Kd.M Kd.string _ _ _ (⟨#[]⟩ : ByteArray) [.string (⟨#[]⟩ : ByteArray)] from rfl) (Reps.one (show Kd.M Kd.string _ _ _ (⟨#[97]⟩ : ByteArray) [.string (⟨#[97]⟩ : ByteArray)] from rfl) (Reps.one (show Kd.M Kd.string _ _ _ (⟨#[98]⟩ : ByteArray) [.string (⟨#[98]⟩ : ByteArray)] from rfl) (Reps.one (show Kd.M Kd.string _ _ _ (⟨#[104, 116, 116, 112, 58, 47, 47, 104, 47, 97]⟩ : ByteArray) [.string (⟨#[104, 116, 116, 112, 58, 47, 47, 104, 47, 97]⟩ : ByteArray)] from rfl) (Reps.one (show Kd.M Kd.string _ _ _ ((⟨#[107]⟩ : ByteArray) ++ t235) [.string ((⟨#[107]⟩ : ByteArray) ++ t235)] from rfl) (Reps.none _ _))))))); intro v237 w8 ho9 hb hg_ hnew_; clear hg_ hnew_; (first | rw [← Ny236.out] at ho9 | (simp only [Int.reduceToNat] at ho9; rw [← Ny236.out] at ho9)); have n0_ := Aside0.mk (Kd.R_lower ho9 (keep_size (w := w) (g := g) (row := none) (by repeat (first | (with_reducible first | exact HK.out | apply KeepBut.set_ | apply keep_drewN | apply keep_drew | apply keep_alloc) | exact HK.out)))); have n1_ := Aside0.mk (IsS41.below (by repeat (first | (with_reducible first | exact HI0.out | apply IsS41.alloc | apply IsS41.drewN | apply IsS41.drew | apply IsS41.set_1 | apply IsS41.set_2) | exact HI0.out)) hb); have n2_ := Aside0.mk (KeepBut.trans (by repeat (first | (with_reducible first | exact HK.out | apply KeepBut.set_ | apply keep_drewN | apply keep_drew | apply keep_alloc) | exact HK.out)) (KeepBut.of_below hb g none) (.inl rfl)); have n3_ := Aside0.mk (below_step (by repeat (first | (with_reducible first | exact HB.out | apply below_alloc | apply pw_below_drewN | apply below_drew1 | refine below_set ?_ (IsS41.ge HI0.out)) | exact HB.out)) hb); clear HI0; clear HK; clear HB; have HO238 := n0_; have HI0 := n1_; have HK := n2_; have HB := n3_; clear n0_ n1_ n2_ n3_; clear hb ho9; obtain ⟨Ao10, co10, eo10⟩ := Kd.R_slice HO238.out; subst eo10) | ((with_reducible refine gate_callee (f := 42) rfl ?_); refine goesL_ (some 9) rfl rfl Tryd.func42 (by kernel_rfl) rfl #[.pointer (some ⟨g, 0, none⟩), .slice Ao10 y236.length co10] rfl (by (try simp only [List.map_toArray, List.map_cons, List.map_nil]); first | done | rfl | (simp only [List.length_drop, List.length_take]; rfl)) ?_; (with_reducible refine (spec_l1Cur_of.calls g s0_0 t233 t234 _ _ y236 t239 t240 t241 w0 _ ?side1 ?side2 ?side3 ?side4 ?side5 A5.out).mono ?_); (case side1 => repeat (first | (with_reducible first | exact HI0.out | apply IsS41.alloc | apply IsS41.drewN | apply IsS41.drew | apply IsS41.set_1 | apply IsS41.set_2) | exact HI0.out)); (case side2 => repeat (first | (with_reducible first | exact HB.out | apply below_alloc | apply pw_below_drewN | apply below_drew1 | refine below_set ?_ (IsS41.ge HI0.out)) | exact HB.out)); (case side3 => repeat (first | exact (Kd.R_reads' HO238.out).2.2 | (with_reducible refine Kd.C_alloc ?_ _) | (with_reducible refine Kd.C_drewN ?_ _) | (with_reducible refine Kd.C_drew ?_))); (case side4 => exact (Kd.R_reads' HO238.out).2.1); (case side5 => exact far_slice (IsS41.own_ne HI0.out HO238.out (by decide))); rintro e w11 ⟨rfl, hi, hb, hk⟩; refine ⟨_, rfl, ?_⟩; have n0_ := Aside0.mk (Kd.R_mono (Kd.R_keep (IsS41.apart (show IsS41 w0 _ g s0_0 t233 t234 from by repeat (first | (with_reducible first | exact HI0.out | apply IsS41.alloc | apply IsS41.drewN | apply IsS41.drew | apply IsS41.set_1 | apply IsS41.set_2) | exact HI0.out)) (by (with_reducible repeat (first | apply Kd.R_alloc | apply Kd.R_drewN | apply Kd.R_drew)); exact HO238.out) (by decide)) hk (fun _ h => h.2)) (fun _ h => h.1)); have n1_ := Aside0.mk (KeepBut.trans (by repeat (first | (with_reducible first | exact HK.out | apply KeepBut.set_ | apply keep_drewN | apply keep_drew | apply keep_alloc) | exact HK.out)) hk (.inl rfl)); have n2_ := Aside0.mk (hb); have n3_ := Aside0.mk (hi); clear HO238; clear HK; clear HB; clear HI0; have HO238 := n0_; have HK := n1_; have HB := n2_; have HI0 := n3_; clear n0_ n1_ n2_ n3_; (try clear hb); (try clear hb2); (try clear hk); (try clear hi)))
    go_ret
    exact ⟨by first | rfl | (simp [errW_none, errW_some] <;> rfl) | (simp [*, errW_none, errW_some] <;> rfl), by repeat (first | (with_reducible first | exact HI0.out | apply IsS41.alloc | apply IsS41.drewN | apply IsS41.drew | apply IsS41.set_1 | apply IsS41.set_2) | exact HI0.out), by repeat (first | (with_reducible first | exact HB.out | apply below_alloc | apply pw_below_drewN | apply below_drew1 | refine below_set ?_ (IsS41.ge HI0.out)) | exact HB.out), by repeat (first | (with_reducible first | exact HK.out | apply KeepBut.set_ | apply keep_drewN | apply keep_drew | apply keep_alloc) | exact HK.out)⟩
  · rw [if_neg c4] at H
    exact absurd H (by simp)

/-! ### spec_DrawRingServer: function 8 -/
def spec_DrawRingServer.f (k : Nat) (l0 : List Int) : Option ((List (S31)) × ByteArray) := (spec_l1Cur_servers.f k l0 0 0).bind fun bt243 => ((spec_l1Cur_pick.f l0 bt243.2.1 bt243.2.2 4).bind fun bt248 => ((spec_RingOf.f k bt243.1 (wrap64 (1 + bt248.1))).bind fun bt251 => (if (bt251.1.length : Int) > 1 then ((spec_l1Cur_one.f l0 bt248.2.1 bt248.2.2 12).bind fun bt255 => (if bt255.1 = true then (if 1 < (bt251.1.length : Int) then (if 0 < (bt251.1.length : Int) then ((some (bt251.1.set (0 : Int).toNat (⟨(rd_T31 bt251.1 1).f0, (rd_T31 bt251.1 1).f1⟩ : S31) : List (S31))).bind fun y259 => ((spec_l1Cur_pick.f l0 bt255.2.1 bt255.2.2 9).bind fun bt260 => ((spec_l1Cur_ringKey.f k l0 bt260.2.1 bt260.2.2).bind fun bt264 => (some ((y259.set (1 : Int).toNat (⟨(bt260.1) % 4294967296, (rd_T31 y259 1).f1⟩ : S31)), bt264.1))))) else (none)) else (none)) else ((spec_l1Cur_ringKey.f k l0 bt255.2.1 bt255.2.2).bind fun bt267 => (some (bt251.1, bt267.1))))) else ((spec_l1Cur_ringKey.f k l0 bt248.2.1 bt248.2.2).bind fun bt270 => (some (bt251.1, bt270.1))))))
theorem spec_DrawRingServer.mono : ∀ a0 k, LeO (spec_DrawRingServer.f k a0) (spec_DrawRingServer.f (k + 1) a0) := by
  intro a0 k
  unfold spec_DrawRingServer.f
  repeat' first
      | (with_reducible exact spec_RingOf.mono _ _ _)
      | (with_reducible exact spec_l1Cur_ringKey.mono _ _ _ _)
      | (with_reducible exact spec_l1Cur_servers.mono _ _ _ _)
      | (with_reducible exact LeO.refl _)
      | (with_reducible exact LeO.none _)
      | (with_reducible refine LeO.ite ?_ ?_)
      | (with_reducible refine LeO.bind ?_ (fun _ => ?_))
      | exact spec_RingOf.mono _ _ _
      | exact spec_l1Cur_ringKey.mono _ _ _ _
      | exact spec_l1Cur_servers.mono _ _ _ _
      | exact LeO.none _
      | refine LeO.ite ?_ ?_
      | refine LeO.bind ?_ (fun _ => ?_)
set_option maxHeartbeats 8000000 in
set_option maxRecDepth 100000 in
theorem spec_DrawRingServer.calls (k : Nat) (A0 : Option Addr) (c0 : Nat) (l0 : List Int) (r1 : List (S31)) (r2 : ByteArray) (w : World) (hr0 : Kd.C (Kd.int .u8) w A0 l0.length l0) (hc0 : l0.length ≤ c0) (h : spec_DrawRingServer.f k l0 = some (r1, r2)) :
    Calls Tryd.prog 8 #[.slice A0 l0.length c0] w fun e w' => ∃ v0_ : Value, e = .returned (.tuple #[v0_, .string r2]) ∧ Kd.R k31 31 w' w.heap.size (fun _ => True) v0_ r1 ∧ Below w.heap.size w w' := by
  have hu41 := Tryd.underlying41
  have hu31 := Tryd.underlying31
  have HR0 := Aside0.mk hr0
  have HC0 := Aside0.mk hc0
  clear hr0 hc0
  have HB := Aside0.mk (Below.refl w.heap.size w)
  have H : ((spec_l1Cur_servers.f k l0 0 0).bind fun bt243 => ((spec_l1Cur_pick.f l0 bt243.2.1 bt243.2.2 4).bind fun bt248 => ((spec_RingOf.f k bt243.1 (wrap64 (1 + bt248.1))).bind fun bt251 => (if (bt251.1.length : Int) > 1 then ((spec_l1Cur_one.f l0 bt248.2.1 bt248.2.2 12).bind fun bt255 => (if bt255.1 = true then (if 1 < (bt251.1.length : Int) then (if 0 < (bt251.1.length : Int) then ((some (bt251.1.set (0 : Int).toNat (⟨(rd_T31 bt251.1 1).f0, (rd_T31 bt251.1 1).f1⟩ : S31) : List (S31))).bind fun y259 => ((spec_l1Cur_pick.f l0 bt255.2.1 bt255.2.2 9).bind fun bt260 => ((spec_l1Cur_ringKey.f k l0 bt260.2.1 bt260.2.2).bind fun bt264 => (some ((y259.set (1 : Int).toNat (⟨(bt260.1) % 4294967296, (rd_T31 y259 1).f1⟩ : S31)), bt264.1))))) else (none)) else (none)) else ((spec_l1Cur_ringKey.f k l0 bt255.2.1 bt255.2.2).bind fun bt267 => (some (bt251.1, bt267.1))))) else ((spec_l1Cur_ringKey.f k l0 bt248.2.1 bt248.2.2).bind fun bt270 => (some (bt251.1, bt270.1))))))) = some (r1, r2) := h
  clear h
  replace H := Option.bind_eq_some_iff.mp H
  obtain ⟨⟨t243, t246, t247⟩, A20, H⟩ := H
  replace H : ((spec_l1Cur_pick.f l0 t246 t247 4).bind fun bt248 => ((spec_RingOf.f k t243 (wrap64 (1 + bt248.1))).bind fun bt251 => (if (bt251.1.length : Int) > 1 then ((spec_l1Cur_one.f l0 bt248.2.1 bt248.2.2 12).bind fun bt255 => (if bt255.1 = true then (if 1 < (bt251.1.length : Int) then (if 0 < (bt251.1.length : Int) then ((some (bt251.1.set (0 : Int).toNat (⟨(rd_T31 bt251.1 1).f0, (rd_T31 bt251.1 1).f1⟩ : S31) : List (S31))).bind fun y259 => ((spec_l1Cur_pick.f l0 bt255.2.1 bt255.2.2 9).bind fun bt260 => ((spec_l1Cur_ringKey.f k l0 bt260.2.1 bt260.2.2).bind fun bt264 => (some ((y259.set (1 : Int).toNat (⟨(bt260.1) % 4294967296, (rd_T31 y259 1).f1⟩ : S31)), bt264.1))))) else (none)) else (none)) else ((spec_l1Cur_ringKey.f k l0 bt255.2.1 bt255.2.2).bind fun bt267 => (some (bt251.1, bt267.1))))) else ((spec_l1Cur_ringKey.f k l0 bt248.2.1 bt248.2.2).bind fun bt270 => (some (bt251.1, bt270.1)))))) = some (r1, r2) := H
  have A2 := Aside0.mk A20
  clear A20
  replace H := Option.bind_eq_some_iff.mp H
  obtain ⟨⟨t248, t249, t250⟩, A30, H⟩ := H
  replace H : ((spec_RingOf.f k t243 (wrap64 (1 + t248))).bind fun bt251 => (if (bt251.1.length : Int) > 1 then ((spec_l1Cur_one.f l0 t249 t250 12).bind fun bt255 => (if bt255.1 = true then (if 1 < (bt251.1.length : Int) then (if 0 < (bt251.1.length : Int) then ((some (bt251.1.set (0 : Int).toNat (⟨(rd_T31 bt251.1 1).f0, (rd_T31 bt251.1 1).f1⟩ : S31) : List (S31))).bind fun y259 => ((spec_l1Cur_pick.f l0 bt255.2.1 bt255.2.2 9).bind fun bt260 => ((spec_l1Cur_ringKey.f k l0 bt260.2.1 bt260.2.2).bind fun bt264 => (some ((y259.set (1 : Int).toNat (⟨(bt260.1) % 4294967296, (rd_T31 y259 1).f1⟩ : S31)), bt264.1))))) else (none)) else (none)) else ((spec_l1Cur_ringKey.f k l0 bt255.2.1 bt255.2.2).bind fun bt267 => (some (bt251.1, bt267.1))))) else ((spec_l1Cur_ringKey.f k l0 t249 t250).bind fun bt270 => (some (bt251.1, bt270.1))))) = some (r1, r2) := H
  have A3 := Aside0.mk A30
  clear A30
  replace H := Option.bind_eq_some_iff.mp H
  obtain ⟨⟨t251, t252⟩, A40, H⟩ := H
  replace H : (if (t251.length : Int) > 1 then ((spec_l1Cur_one.f l0 t249 t250 12).bind fun bt255 => (if bt255.1 = true then (if 1 < (t251.length : Int) then (if 0 < (t251.length : Int) then ((some (t251.set (0 : Int).toNat (⟨(rd_T31 t251 1).f0, (rd_T31 t251 1).f1⟩ : S31) : List (S31))).bind fun y259 => ((spec_l1Cur_pick.f l0 bt255.2.1 bt255.2.2 9).bind fun bt260 => ((spec_l1Cur_ringKey.f k l0 bt260.2.1 bt260.2.2).bind fun bt264 => (some ((y259.set (1 : Int).toNat (⟨(bt260.1) % 4294967296, (rd_T31 y259 1).f1⟩ : S31)), bt264.1))))) else (none)) else (none)) else ((spec_l1Cur_ringKey.f k l0 bt255.2.1 bt255.2.2).bind fun bt267 => (some (t251, bt267.1))))) else ((spec_l1Cur_ringKey.f k l0 t249 t250).bind fun bt270 => (some (t251, bt270.1)))) = some (r1, r2) := H
  have A4 := Aside0.mk A40
  clear A40
  by_cases c5 : (t251.length : Int) > 1
  · rw [if_pos c5] at H
    have c5b0 : decide (1 < (t251.length : Int)) = true := decide_eq_true c5
    have c5b1 : decide (1 < t251.length) = true := decide_eq_true (by omega)
    clear c5
    replace H := Option.bind_eq_some_iff.mp H
    obtain ⟨⟨t255, t256, t257⟩, A60, H⟩ := H
    replace H : (if t255 = true then (if 1 < (t251.length : Int) then (if 0 < (t251.length : Int) then ((some (t251.set (0 : Int).toNat (⟨(rd_T31 t251 1).f0, (rd_T31 t251 1).f1⟩ : S31) : List (S31))).bind fun y259 => ((spec_l1Cur_pick.f l0 t256 t257 9).bind fun bt260 => ((spec_l1Cur_ringKey.f k l0 bt260.2.1 bt260.2.2).bind fun bt264 => (some ((y259.set (1 : Int).toNat (⟨(bt260.1) % 4294967296, (rd_T31 y259 1).f1⟩ : S31)), bt264.1))))) else (none)) else (none)) else ((spec_l1Cur_ringKey.f k l0 t256 t257).bind fun bt267 => (some (t251, bt267.1)))) = some (r1, r2) := H
    have A6 := Aside0.mk A60
    clear A60
    by_cases c7 : t255 = true
    · subst c7
      have H1 : (if 1 < (t251.length : Int) then (if 0 < (t251.length : Int) then ((some (t251.set (0 : Int).toNat (⟨(rd_T31 t251 1).f0, (rd_T31 t251 1).f1⟩ : S31) : List (S31))).bind fun y259 => ((spec_l1Cur_pick.f l0 t256 t257 9).bind fun bt260 => ((spec_l1Cur_ringKey.f k l0 bt260.2.1 bt260.2.2).bind fun bt264 => (some ((y259.set (1 : Int).toNat (⟨(bt260.1) % 4294967296, (rd_T31 y259 1).f1⟩ : S31)), bt264.1))))) else (none)) else (none)) = some (r1, r2) := by rw [if_pos rfl] at H; exact H
      clear H
      have H := H1
      clear H1
      by_cases c8 : 1 < (t251.length : Int)
      · rw [if_pos c8] at H
        have c8b0 : decide (1 < (t251.length : Int)) = true := decide_eq_true c8
        have c8b1 : decide (1 < t251.length) = true := decide_eq_true (by omega)
        clear c8
        by_cases c9 : 0 < (t251.length : Int)
        · rw [if_pos c9] at H
          have c9b0 : decide (0 < (t251.length : Int)) = true := decide_eq_true c9
          have c9b1 : decide (0 < t251.length) = true := decide_eq_true (by omega)
          clear c9
          obtain ⟨y259, hy259⟩ : ∃ y_ : List (S31), y_ = (t251.set (0 : Int).toNat (⟨(rd_T31 t251 1).f0, (rd_T31 t251 1).f1⟩ : S31)) := ⟨_, rfl⟩
          replace H : ((spec_l1Cur_pick.f l0 t256 t257 9).bind fun bt260 => ((spec_l1Cur_ringKey.f k l0 bt260.2.1 bt260.2.2).bind fun bt264 => (some ((y259.set (1 : Int).toNat (⟨(bt260.1) % 4294967296, (rd_T31 y259 1).f1⟩ : S31)), bt264.1)))) = some (r1, r2) := by first | (rw [hy259]; with_reducible exact H) | (have H2_ := (Option.bind_some _ _).symm.trans H; rw [hy259]; with_reducible exact H2_) | (have H2_ := (Option.bind_some _ _).symm.trans H; with_reducible exact H2_) | with_reducible exact H | (rw [hy259]; exact H) | exact H
          have Ny259 := Aside0.mk hy259
          clear hy259
          replace H := Option.bind_eq_some_iff.mp H
          obtain ⟨⟨t260, t261, t262⟩, A110, H⟩ := H
          replace H : ((spec_l1Cur_ringKey.f k l0 t261 t262).bind fun bt264 => (some ((y259.set (1 : Int).toNat (⟨(t260) % 4294967296, (rd_T31 y259 1).f1⟩ : S31)), bt264.1))) = some (r1, r2) := H
          have A11 := Aside0.mk A110
          clear A110
          obtain ⟨y263, hy263⟩ : ∃ y_ : List (S31), y_ = (y259.set (1 : Int).toNat (⟨(t260) % 4294967296, (rd_T31 y259 1).f1⟩ : S31)) := ⟨_, rfl⟩
          replace H : ((spec_l1Cur_ringKey.f k l0 t261 t262).bind fun bt264 => (some (y263, bt264.1))) = some (r1, r2) := by first | (rw [hy263]; with_reducible exact H) | (have H2_ := (Option.bind_some _ _).symm.trans H; rw [hy263]; with_reducible exact H2_) | (have H2_ := (Option.bind_some _ _).symm.trans H; with_reducible exact H2_) | with_reducible exact H | (rw [hy263]; exact H) | exact H
          have Ny263 := Aside0.mk hy263
          clear hy263
          replace H := Option.bind_eq_some_iff.mp H
          obtain ⟨⟨t264, t265, t266⟩, A130, H⟩ := H
          replace H : (some (y263, t264)) = some (r1, r2) := H
          have A13 := Aside0.mk A130
          clear A130
          simp only [Option.some.injEq, Prod.mk.injEq] at H
          obtain ⟨rfl, rfl⟩ := H
          go_enter Tryd.func8, Tryd.ntmps8
          go_wp2_with (first | ((with_reducible refine gate_dst (N := 9) rfl ?_); refine box_event ?hg (N := 9) ?hd (cs := #[.slice A0 l0.length c0, .int .i64 0, .int .u64 0]) (t := 41) ?hr ?_; (case hd => rfl); (case hg => rfl); (case hr => first | (go_simp; done) | (go_simp; rfl)); intro gb242 hg w14 hbox hb; have n0_ := Aside0.mk (below_step (by repeat (first | (with_reducible first | exact HB.out | apply below_alloc | apply pw_below_drewN | apply below_drew1) | exact HB.out)) hb); have n1_ := Aside0.mk (hbox); have n2_ := Aside0.mk ((by rw [hg]; exact (below_size (by repeat (first | (with_reducible first | exact HB.out | apply below_alloc | apply pw_below_drewN | apply below_drew1) | exact HB.out))) : w.heap.size ≤ gb242)); have n3_ := Aside0.mk ((by rw [hg]; exact (below_size (by repeat (first | (with_reducible first | exact HB.out | apply below_alloc | apply pw_below_drewN | apply below_drew1) | exact HB.out))) : w.heap.size ≤ gb242)); clear HB; have HB := n0_; have BK242 := n1_; have GW242 := n2_; have GE242 := n3_; clear n0_ n1_ n2_ n3_; clear hb hbox hg; have HI242 := Aside0.mk (show IsS41 w w14 gb242 l0 0 0 from ⟨_, _, BK242.out, GE242.out, HR0.out⟩)) | ((with_reducible refine gate_callee (f := 11) rfl ?_); refine goesL_ (some 12) rfl rfl Tryd.func11 (by kernel_rfl) rfl #[.pointer (some ⟨gb242, 0, none⟩)] rfl (by (try simp only [List.map_toArray, List.map_cons, List.map_nil]); first | done | rfl | (simp only [List.length_drop, List.length_take]; rfl)) ?_; (with_reducible refine (spec_l1Cur_servers.calls k gb242 l0 0 0 t243 t246 t247 w _ ?side1 ?side2 A2.out).mono ?_); (case side1 => repeat (first | (with_reducible first | exact HI242.out | apply IsS41.alloc | apply IsS41.drewN | apply IsS41.drew | apply IsS41.set_1 | apply IsS41.set_2) | exact HI242.out)); (case side2 => repeat (first | (with_reducible first | exact HB.out | apply below_alloc | apply pw_below_drewN | apply below_drew1 | refine below_set ?_ (IsS41.ge HI242.out)) | exact HB.out)); rintro e w15 ⟨v244, rfl, ho0, hi, hb, hk⟩; refine ⟨_, rfl, ?_⟩; have n0_ := Aside0.mk (Kd.R_lower ho0 (below_size (by repeat (first | (with_reducible first | exact HB.out | apply below_alloc | apply pw_below_drewN | apply below_drew1 | refine below_set ?_ (IsS41.ge HI242.out)) | exact HB.out)))); have n1_ := Aside0.mk (hb); have n2_ := Aside0.mk (hi); clear HB; clear HI242; have HO245 := n0_; have HB := n1_; have HI242 := n2_; clear n0_ n1_ n2_; (try clear hb); (try clear hb2); (try clear hk); (try clear hi); (try clear ho0)) | ((with_reducible refine gate_callee (f := 12) rfl ?_); refine goesL_ (some 14) rfl rfl Tryd.func12 (by kernel_rfl) rfl #[.pointer (some ⟨gb242, 0, none⟩), .int .i64 4] rfl (by (try simp only [List.map_toArray, List.map_cons, List.map_nil]); first | done | rfl | (simp only [List.length_drop, List.length_take]; rfl)) ?_; (with_reducible refine (spec_l1Cur_pick.calls gb242 l0 t246 t247 4 t248 t249 t250 w _ ?side1 ?side2 A3.out).mono ?_); (case side1 => repeat (first | (with_reducible first | exact HI242.out | apply IsS41.alloc | apply IsS41.drewN | apply IsS41.drew | apply IsS41.set_1 | apply IsS41.set_2) | exact HI242.out)); (case side2 => repeat (first | (with_reducible first | exact HB.out | apply below_alloc | apply pw_below_drewN | apply below_drew1 | refine below_set ?_ (IsS41.ge HI242.out)) | exact HB.out)); rintro e w16 ⟨rfl, hi, hb, hk⟩; refine ⟨_, rfl, ?_⟩; have n0_ := Aside0.mk (Kd.R_mono (Kd.R_keep (IsS41.apart (show IsS41 w _ gb242 l0 t246 t247 from by repeat (first | (with_reducible first | exact HI242.out | apply IsS41.alloc | apply IsS41.drewN | apply IsS41.drew | apply IsS41.set_1 | apply IsS41.set_2) | exact HI242.out)) (by (with_reducible repeat (first | apply Kd.R_alloc | apply Kd.R_drewN | apply Kd.R_drew)); exact HO245.out) (by decide)) hk (fun _ h => h.2)) (fun _ h => h.1)); have n1_ := Aside0.mk (hb); have n2_ := Aside0.mk (hi); clear HO245; clear HB; clear HI242; have HO245 := n0_; have HB := n1_; have HI242 := n2_; clear n0_ n1_ n2_; (try clear hb); (try clear hb2); (try clear hk); (try clear hi); obtain ⟨Ao17, co17, eo17⟩ := Kd.R_slice HO245.out; subst eo17) | ((with_reducible refine gate_callee (f := 6) rfl ?_); refine goesL_ (some 16) rfl rfl Tryd.func6 (by kernel_rfl) rfl #[.slice Ao17 t243.length co17, .int .i64 (wrap64 (1 + t248))] rfl (by (try simp only [List.map_toArray, List.map_cons, List.map_nil]); first | done | rfl | (simp only [List.length_drop, List.length_take]; rfl)) ?_; (with_reducible refine (spec_RingOf.calls k _ _ t243 (wrap64 (1 + t248)) t251 t252 _ ?side1 ?side2 A4.out).mono ?_); (case side1 => repeat (first | exact (Kd.R_reads' HO245.out).2.2 | (with_reducible refine Kd.C_alloc ?_ _) | (with_reducible refine Kd.C_drewN ?_ _) | (with_reducible refine Kd.C_drew ?_))); (case side2 => exact (Kd.R_reads' HO245.out).2.1); rintro e w18 ⟨v253, rfl, ho0, hb⟩; refine ⟨_, rfl, ?_⟩; have n0_ := Aside0.mk (Kd.R_below (by (with_reducible repeat (first | apply Kd.R_alloc | apply Kd.R_drewN | apply Kd.R_drew)); exact HO245.out) hb); have n1_ := Aside0.mk (Kd.R_lower ho0 (below_size (by repeat (first | (with_reducible first | exact HB.out | apply below_alloc | apply pw_below_drewN | apply below_drew1 | refine below_set ?_ (IsS41.ge HI242.out)) | exact HB.out)))); have n2_ := Aside0.mk (IsS41.below (by repeat (first | (with_reducible first | exact HI242.out | apply IsS41.alloc | apply IsS41.drewN | apply IsS41.drew | apply IsS41.set_1 | apply IsS41.set_2) | exact HI242.out)) hb); have n3_ := Aside0.mk (below_step (by repeat (first | (with_reducible first | exact HB.out | apply below_alloc | apply pw_below_drewN | apply below_drew1 | refine below_set ?_ (IsS41.ge HI242.out)) | exact HB.out)) hb); clear HO245; clear HI242; clear HB; have HO245 := n0_; have HO254 := n1_; have HI242 := n2_; have HB := n3_; clear n0_ n1_ n2_ n3_; (try clear hb); (try clear hb2); (try clear hk); (try clear hi); (try clear ho0); obtain ⟨Ao19, co19, eo19⟩ := Kd.R_slice HO254.out; subst eo19) | (go_at_call 24; (with_reducible refine (spec_l1Cur_one.calls gb242 l0 t249 t250 12 true t256 t257 w _ ?side1 ?side2 A6.out).mono ?_); (case side1 => repeat (first | (with_reducible first | exact HI242.out | apply IsS41.alloc | apply IsS41.drewN | apply IsS41.drew | apply IsS41.set_1 | apply IsS41.set_2) | exact HI242.out)); (case side2 => repeat (first | (with_reducible first | exact HB.out | apply below_alloc | apply pw_below_drewN | apply below_drew1 | refine below_set ?_ (IsS41.ge HI242.out)) | exact HB.out)); rintro e w20 ⟨rfl, hi, hb, hk⟩; have n0_ := Aside0.mk (Kd.R_mono (Kd.R_keep (IsS41.apart (show IsS41 w _ gb242 l0 t249 t250 from by repeat (first | (with_reducible first | exact HI242.out | apply IsS41.alloc | apply IsS41.drewN | apply IsS41.drew | apply IsS41.set_1 | apply IsS41.set_2) | exact HI242.out)) (by (with_reducible repeat (first | apply Kd.R_alloc | apply Kd.R_drewN | apply Kd.R_drew)); exact HO245.out) (by decide)) hk (fun _ h => h.2)) (fun _ h => h.1)); have n1_ := Aside0.mk (Kd.R_mono (Kd.R_keep (IsS41.apart (show IsS41 w _ gb242 l0 t249 t250 from by repeat (first | (with_reducible first | exact HI242.out | apply IsS41.alloc | apply IsS41.drewN | apply IsS41.drew | apply IsS41.set_1 | apply IsS41.set_2) | exact HI242.out)) (by (with_reducible repeat (first | apply Kd.R_alloc | apply Kd.R_drewN | apply Kd.R_drew)); exact HO254.out) (by decide)) hk (fun _ h => h.2)) (fun _ h => h.1)); have n2_ := Aside0.mk (hb); have n3_ := Aside0.mk (hi); clear HO245; clear HO254; clear HB; clear HI242; have HO245 := n0_; have HO254 := n1_; have HB := n2_; have HI242 := n3_; clear n0_ n1_ n2_ n3_; (try clear hb); (try clear hb2); (try clear hk); (try clear hi); have p258 : 0 ≤ (1 : Int) := (by omega); have q258 : 1 < (t251.length : Int) := of_decide_eq_true (by first | (with_reducible assumption) | assumption); obtain ⟨ad258, e258, hx258_0, hx258_1⟩ := at_T31 (Kd.R_reads' HO254.out).2.2 1 p258 q258; cases e258; (try simp only [show (1 : Int).toNat = 1 from rfl, Nat.reduceMul, Nat.reduceEqDiff, Go.Addr.add, ↓reduceIte] at hx258_0); (try simp only [show (1 : Int).toNat = 1 from rfl, Nat.reduceMul, Nat.reduceEqDiff, Go.Addr.add, ↓reduceIte] at hx258_1); have qi258 : (1 < t251.length) = True := eq_true (by omega); (try rw [show ((1 : Int)).toNat = 1 from rfl] at hx258_0); (try rw [show 1 * 2 = 2 from rfl] at hx258_0); (try rw [show ((1 : Int)).toNat = 1 from rfl] at hx258_1); (try rw [show 1 * 2 = 2 from rfl] at hx258_1); replace p258 := eq_true p258; replace q258 := eq_true q258; have p10 : 0 ≤ (0 : Int) := (by omega); have q10 : (0 : Int) < ((t251.length : Int) : Int) := of_decide_eq_true (by first | (with_reducible assumption) | assumption); have qi10 : (0 < t251.length) = True := eq_true (by omega); obtain ⟨go10, co10, eo10, gb10, gl10, cl10, HG10⟩ := Kd.R_form HO254.out (by omega); (first | cases eo10 | (injection eo10 with ea_ en_ ec_; (first | subst ea_ | (injection ea_ with ea_; subst ea_)); subst ec_; clear en_)); have GB10 := Aside0.mk gb10; have GG10 := Aside0.mk HG10; clear gb10 gl10 HG10; (first | simp only [add_plain] at hx258_0 | skip); (first | simp only [add_plain] at hx258_1 | skip); obtain ⟨ce10, hcl10, hM10, hcc10, hfr10⟩ := Kd.R_elem HO254.out z31 (0 : Int) p10 q10; obtain rfl := k31_openM hM10; have hx10_0 : w20.cell? ⟨go10, (0 : Int).toNat * 2, none⟩ = some (.int .u32 ((rd_T31 t251 0).f0)) := hcc10 0 _ rfl; have hx10_1 : w20.cell? ⟨go10, (0 : Int).toNat * 2 + 1, none⟩ = some (.int .i64 ((rd_T31 t251 0).f1)) := hcc10 1 _ rfl; have hf10_0 : w20.frozen? ⟨go10, (0 : Int).toNat * 2, none⟩ = false := hfr10 0; have hf10_1 : w20.frozen? ⟨go10, (0 : Int).toNat * 2 + 1, none⟩ = false := hfr10 1; clear hcl10 hcc10 hfr10 hM10; (try rw [show ((0 : Int)).toNat = 0 from rfl] at hx10_0); (try simp only [Nat.reduceMul, Nat.zero_mul, Nat.zero_add, Nat.reduceAdd] at hx10_0); (try rw [show ((0 : Int)).toNat = 0 from rfl] at hf10_0); (try simp only [Nat.reduceMul, Nat.zero_mul, Nat.zero_add, Nat.reduceAdd] at hf10_0); (try rw [show ((0 : Int)).toNat = 0 from rfl] at hx10_1); (try simp only [Nat.reduceMul, Nat.zero_mul, Nat.zero_add, Nat.reduceAdd] at hx10_1); (try rw [show ((0 : Int)).toNat = 0 from rfl] at hf10_1); (try simp only [Nat.reduceMul, Nat.zero_mul, Nat.zero_add, Nat.reduceAdd] at hf10_1); replace p10 := eq_true p10; replace q10 := eq_true q10; have HX21 := Aside0.mk (show Kd.R k31 31 w20 w.heap.size (fun _ => True) (.slice (some ⟨go10, 0, none⟩) t251.length co19) t251 from (by (with_reducible repeat (first | apply Kd.R_alloc | apply Kd.R_drewN | apply Kd.R_drew)); exact HO254.out)); obtain ⟨ce21, hcl21, hM21, hcc21, hfr21⟩ := Kd.R_elem HX21.out z31 (0 : Int) (by omega) (by have h_ : (0 : Int) < ((t251.length : Int) : Int) := of_decide_eq_true (by first | (with_reducible assumption) | assumption); first | exact h_ | (have e_ := (Kd.R_reads' HO254.out).1; omega) | simpa using h_); obtain rfl := k31_openM hM21; have HP21 := Kd.R_seg HX21.out (0 : Int) (by omega) (by have h_ : (0 : Int) < ((t251.length : Int) : Int) := of_decide_eq_true (by first | (with_reducible assumption) | assumption); first | exact h_ | (have e_ := (Kd.R_reads' HO254.out).1; omega) | simpa using h_) (seg := [.int .u32 ((rd_T31 t251 1).f0), .int .i64 ((rd_T31 t251 1).f1)]) (j := 0) hcl21 hcc21 (show 2 ≤ 2 from by decide) (x' := (⟨(rd_T31 t251 1).f0, (rd_T31 t251 1).f1⟩ : S31)) (k31_mkM _ _ _ (⟨(rd_T31 t251 1).f0, (rd_T31 t251 1).f1⟩ : S31) ) (fun _ hk => hk); have hx21_0 := hcc21 0 _ rfl; (try simp only [show (k31).sz = 2 from rfl, Nat.mul_one, Nat.add_zero] at hx21_0); (try rw [show ((0 : Int)).toNat = 0 from rfl] at hx21_0); (try simp only [Nat.reduceMul, Nat.zero_mul, Nat.zero_add, Nat.reduceAdd] at hx21_0); have hf21_0 := hfr21 0; (try simp only [show (k31).sz = 2 from rfl, Nat.mul_one, Nat.add_zero] at hf21_0); (try rw [show ((0 : Int)).toNat = 0 from rfl] at hf21_0); (try simp only [Nat.reduceMul, Nat.zero_mul, Nat.zero_add, Nat.reduceAdd] at hf21_0); have hx21_1 := hcc21 1 _ rfl; (try simp only [show (k31).sz = 2 from rfl, Nat.mul_one, Nat.add_zero] at hx21_1); (try rw [show ((0 : Int)).toNat = 0 from rfl] at hx21_1); (try simp only [Nat.reduceMul, Nat.zero_mul, Nat.zero_add, Nat.reduceAdd] at hx21_1); have hf21_1 := hfr21 1; (try simp only [show (k31).sz = 2 from rfl, Nat.mul_one, Nat.add_zero] at hf21_1); (try rw [show ((0 : Int)).toNat = 0 from rfl] at hf21_1); (try simp only [Nat.reduceMul, Nat.zero_mul, Nat.zero_add, Nat.reduceAdd] at hf21_1); clear hcl21 hcc21 hfr21 hM21) | ((with_reducible refine gate_store (t := 31) (p := 30) rfl ?_); refine store_event (t := 31) (p := 30) (v := ?vo_w22) (w1 := ((w20.setCell ⟨go10, 0, none⟩ (.int .u32 ((rd_T31 t251 1).f0))).setCell ⟨go10, 1, none⟩ (.int .i64 ((rd_T31 t251 1).f1)))) ?hg ?ho ?hn ?hr ?_; (case ho => rfl); (case hg => rfl); (case hn => rfl); (case hr => first | (go_simp; done) | (go_simp; rfl)); intro w22 hw; have hg : w20.grownBy w22 (some go10) := (by rw [hw]; exact HP21.2); have hp_ : Kd.R k31 31 w22 w.heap.size (fun _ => True) (.slice (some ⟨go10, 0, none⟩) t251.length co19) y259 := (by rw [hw, Ny259.out]; exact HP21.1); clear HP21; have n0_ := Aside0.mk (IsS41.grown (by repeat (first | (with_reducible first | exact HI242.out | apply IsS41.alloc | apply IsS41.drewN | apply IsS41.drew | apply IsS41.set_1 | apply IsS41.set_2) | exact HI242.out)) hg (IsS41.own_ne HI242.out HO254.out (by decide))); have n1_ := Aside0.mk (Kd.R_over' (v := (.slice (some ⟨go10, 0, none⟩) t251.length co19)) (by (with_reducible repeat (first | apply Kd.R_alloc | apply Kd.R_drewN | apply Kd.R_drew)); exact HO245.out) (Kd.R_typed HO254.out) (by decide) hg); have n2_ := Aside0.mk (hp_); have n3_ := Aside0.mk ((by rw [hw]; exact below_set (below_set (HB.out) GB10.out) GB10.out : Below w.heap.size w w22)); clear HI242; clear HO245; clear HO254; clear HB; have HI242 := n0_; have HO245 := n1_; have HO254 := n2_; have HB := n3_; clear n0_ n1_ n2_ n3_; clear hg hw hp_) | ((with_reducible refine gate_callee (f := 12) rfl ?_); refine goesL_ (some 33) rfl rfl Tryd.func12 (by kernel_rfl) rfl #[.pointer (some ⟨gb242, 0, none⟩), .int .i64 9] rfl (by (try simp only [List.map_toArray, List.map_cons, List.map_nil]); first | done | rfl | (simp only [List.length_drop, List.length_take]; rfl)) ?_; (with_reducible refine (spec_l1Cur_pick.calls gb242 l0 t256 t257 9 t260 t261 t262 w _ ?side1 ?side2 A11.out).mono ?_); (case side1 => repeat (first | (with_reducible first | exact HI242.out | apply IsS41.alloc | apply IsS41.drewN | apply IsS41.drew | apply IsS41.set_1 | apply IsS41.set_2) | exact HI242.out)); (case side2 => repeat (first | (with_reducible first | exact HB.out | apply below_alloc | apply pw_below_drewN | apply below_drew1 | refine below_set ?_ (IsS41.ge HI242.out)) | exact HB.out)); rintro e w23 ⟨rfl, hi, hb, hk⟩; refine ⟨_, rfl, ?_⟩; have n0_ := Aside0.mk (Kd.R_mono (Kd.R_keep (IsS41.apart (show IsS41 w _ gb242 l0 t256 t257 from by repeat (first | (with_reducible first | exact HI242.out | apply IsS41.alloc | apply IsS41.drewN | apply IsS41.drew | apply IsS41.set_1 | apply IsS41.set_2) | exact HI242.out)) (by (with_reducible repeat (first | apply Kd.R_alloc | apply Kd.R_drewN | apply Kd.R_drew)); exact HO245.out) (by decide)) hk (fun _ h => h.2)) (fun _ h => h.1)); have n1_ := Aside0.mk (Kd.R_mono (Kd.R_keep (IsS41.apart (show IsS41 w _ gb242 l0 t256 t257 from by repeat (first | (with_reducible first | exact HI242.out | apply IsS41.alloc | apply IsS41.drewN | apply IsS41.drew | apply IsS41.set_1 | apply IsS41.set_2) | exact HI242.out)) (by (with_reducible repeat (first | apply Kd.R_alloc | apply Kd.R_drewN | apply Kd.R_drew)); exact HO254.out) (by decide)) hk (fun _ h => h.2)) (fun _ h => h.1)); have n2_ := Aside0.mk (hb); have n3_ := Aside0.mk (hi); clear HO245; clear HO254; clear HB; clear HI242; have HO245 := n0_; have HO254 := n1_; have HB := n2_; have HI242 := n3_; clear n0_ n1_ n2_ n3_; (try clear hb); (try clear hb2); (try clear hk); (try clear hi); have p12 : 0 ≤ (1 : Int) := (by omega); have q12 : (1 : Int) < ((t251.length : Int) : Int) := of_decide_eq_true (by first | (with_reducible assumption) | assumption); have qi12 : (1 < t251.length) = True := eq_true (by omega); obtain ⟨ce12, hcl12, hM12, hcc12, hfr12⟩ := Kd.R_elem HO254.out z31 (1 : Int) p12 q12; obtain rfl := k31_openM hM12; have hx12_0 : w23.cell? ⟨go10, (1 : Int).toNat * 2, none⟩ = some (.int .u32 ((rd_T31 y259 1).f0)) := hcc12 0 _ rfl; have hx12_1 : w23.cell? ⟨go10, (1 : Int).toNat * 2 + 1, none⟩ = some (.int .i64 ((rd_T31 y259 1).f1)) := hcc12 1 _ rfl; have hf12_0 : w23.frozen? ⟨go10, (1 : Int).toNat * 2, none⟩ = false := hfr12 0; have hf12_1 : w23.frozen? ⟨go10, (1 : Int).toNat * 2 + 1, none⟩ = false := hfr12 1; clear hcl12 hcc12 hfr12 hM12; (try rw [show ((1 : Int)).toNat = 1 from rfl] at hx12_0); (try simp only [Nat.reduceMul, Nat.zero_mul, Nat.zero_add, Nat.reduceAdd] at hx12_0); (try rw [show ((1 : Int)).toNat = 1 from rfl] at hf12_0); (try simp only [Nat.reduceMul, Nat.zero_mul, Nat.zero_add, Nat.reduceAdd] at hf12_0); (try rw [show ((1 : Int)).toNat = 1 from rfl] at hx12_1); (try simp only [Nat.reduceMul, Nat.zero_mul, Nat.zero_add, Nat.reduceAdd] at hx12_1); (try rw [show ((1 : Int)).toNat = 1 from rfl] at hf12_1); (try simp only [Nat.reduceMul, Nat.zero_mul, Nat.zero_add, Nat.reduceAdd] at hf12_1); replace p12 := eq_true p12; replace q12 := eq_true q12; have HX24 := Aside0.mk (show Kd.R k31 31 w23 w.heap.size (fun _ => True) (.slice (some ⟨go10, 0, none⟩) t251.length co19) y259 from (by (with_reducible repeat (first | apply Kd.R_alloc | apply Kd.R_drewN | apply Kd.R_drew)); exact HO254.out)); obtain ⟨ce24, hcl24, hM24, hcc24, hfr24⟩ := Kd.R_elem HX24.out z31 (1 : Int) (by omega) (by have h_ : (1 : Int) < ((t251.length : Int) : Int) := of_decide_eq_true (by first | (with_reducible assumption) | assumption); first | exact h_ | (have e_ := (Kd.R_reads' HO254.out).1; omega) | simpa using h_); obtain rfl := k31_openM hM24; have HP24 := Kd.R_seg HX24.out (1 : Int) (by omega) (by have h_ : (1 : Int) < ((t251.length : Int) : Int) := of_decide_eq_true (by first | (with_reducible assumption) | assumption); first | exact h_ | (have e_ := (Kd.R_reads' HO254.out).1; omega) | simpa using h_) (seg := [.int .u32 ((t260) % 4294967296)]) (j := 0) hcl24 hcc24 (show 1 ≤ 2 from by decide) (x' := (⟨(t260) % 4294967296, (rd_T31 y259 1).f1⟩ : S31)) (k31_mkM _ _ _ (⟨(t260) % 4294967296, (rd_T31 y259 1).f1⟩ : S31) ) (fun _ hk => hk); have hx24_0 := hcc24 0 _ rfl; (try simp only [show (k31).sz = 2 from rfl, Nat.mul_one, Nat.add_zero] at hx24_0); (try rw [show ((1 : Int)).toNat = 1 from rfl] at hx24_0); (try simp only [Nat.reduceMul, Nat.zero_mul, Nat.zero_add, Nat.reduceAdd] at hx24_0); have hf24_0 := hfr24 0; (try simp only [show (k31).sz = 2 from rfl, Nat.mul_one, Nat.add_zero] at hf24_0); (try rw [show ((1 : Int)).toNat = 1 from rfl] at hf24_0); (try simp only [Nat.reduceMul, Nat.zero_mul, Nat.zero_add, Nat.reduceAdd] at hf24_0); clear hcl24 hcc24 hfr24 hM24) | ((with_reducible refine gate_store (t := 29) (p := 36) rfl ?_); refine store_event (t := 29) (p := 36) (v := ?vo_w25) (w1 := (w23.setCell ⟨go10, 2, none⟩ (.int .u32 ((t260) % 4294967296)))) ?hg ?ho ?hn ?hr ?_; (case ho => rfl); (case hg => rfl); (case hn => rfl); (case hr => first | (go_simp; done) | (go_simp; rfl)); intro w25 hw; have hg : w23.grownBy w25 (some go10) := (by rw [hw]; exact HP24.2); have hp_ : Kd.R k31 31 w25 w.heap.size (fun _ => True) (.slice (some ⟨go10, 0, none⟩) t251.length co19) y263 := (by rw [hw, Ny263.out]; exact HP24.1); clear HP24; have n0_ := Aside0.mk (IsS41.grown (by repeat (first | (with_reducible first | exact HI242.out | apply IsS41.alloc | apply IsS41.drewN | apply IsS41.drew | apply IsS41.set_1 | apply IsS41.set_2) | exact HI242.out)) hg (IsS41.own_ne HI242.out HO254.out (by decide))); have n1_ := Aside0.mk (Kd.R_over' (v := (.slice (some ⟨go10, 0, none⟩) t251.length co19)) (by (with_reducible repeat (first | apply Kd.R_alloc | apply Kd.R_drewN | apply Kd.R_drew)); exact HO245.out) (Kd.R_typed HO254.out) (by decide) hg); have n2_ := Aside0.mk (hp_); have n3_ := Aside0.mk ((by rw [hw]; exact below_set (HB.out) GB10.out : Below w.heap.size w w25)); clear HI242; clear HO245; clear HO254; clear HB; have HI242 := n0_; have HO245 := n1_; have HO254 := n2_; have HB := n3_; clear n0_ n1_ n2_ n3_; clear hg hw hp_) | ((with_reducible refine gate_callee (f := 25) rfl ?_); refine goesL_ (some 39) rfl rfl Tryd.func25 (by kernel_rfl) rfl #[.pointer (some ⟨gb242, 0, none⟩)] rfl (by (try simp only [List.map_toArray, List.map_cons, List.map_nil]); first | done | rfl | (simp only [List.length_drop, List.length_take]; rfl)) ?_; (with_reducible refine (spec_l1Cur_ringKey.calls k gb242 l0 t261 t262 t264 t265 t266 w _ ?side1 ?side2 A13.out).mono ?_); (case side1 => repeat (first | (with_reducible first | exact HI242.out | apply IsS41.alloc | apply IsS41.drewN | apply IsS41.drew | apply IsS41.set_1 | apply IsS41.set_2) | exact HI242.out)); (case side2 => repeat (first | (with_reducible first | exact HB.out | apply below_alloc | apply pw_below_drewN | apply below_drew1 | refine below_set ?_ (IsS41.ge HI242.out)) | exact HB.out)); rintro e w26 ⟨rfl, hi, hb, hk⟩; refine ⟨_, rfl, ?_⟩; have n0_ := Aside0.mk (Kd.R_mono (Kd.R_keep (IsS41.apart (show IsS41 w _ gb242 l0 t261 t262 from by repeat (first | (with_reducible first | exact HI242.out | apply IsS41.alloc | apply IsS41.drewN | apply IsS41.drew | apply IsS41.set_1 | apply IsS41.set_2) | exact HI242.out)) (by (with_reducible repeat (first | apply Kd.R_alloc | apply Kd.R_drewN | apply Kd.R_drew)); exact HO245.out) (by decide)) hk (fun _ h => h.2)) (fun _ h => h.1)); have n1_ := Aside0.mk (Kd.R_mono (Kd.R_keep (IsS41.apart (show IsS41 w _ gb242 l0 t261 t262 from by repeat (first | (with_reducible first | exact HI242.out | apply IsS41.alloc | apply IsS41.drewN | apply IsS41.drew | apply IsS41.set_1 | apply IsS41.set_2) | exact HI242.out)) (by (with_reducible repeat (first | apply Kd.R_alloc | apply Kd.R_drewN | apply Kd.R_drew)); exact HO254.out) (by decide)) hk (fun _ h => h.2)) (fun _ h => h.1)); have n2_ := Aside0.mk (hb); have n3_ := Aside0.mk (hi); clear HO245; clear HO254; clear HB; clear HI242; have HO245 := n0_; have HO254 := n1_; have HB := n2_; have HI242 := n3_; clear n0_ n1_ n2_ n3_; (try clear hb); (try clear hb2); (try clear hk); (try clear hi)))
          go_ret2
          exact ⟨_, by first | rfl | (simp [errW_none, errW_some] <;> rfl) | (simp [*, errW_none, errW_some] <;> rfl), by (with_reducible repeat (first | apply Kd.R_alloc | apply Kd.R_drewN | apply Kd.R_drew)); exact HO254.out, by repeat (first | (with_reducible first | exact HB.out | apply below_alloc | apply pw_below_drewN | apply below_drew1 | refine below_set ?_ (IsS41.ge HI242.out)) | exact HB.out)⟩
        · rw [if_neg c9] at H
          exact absurd H (by simp)
      · rw [if_neg c8] at H
        exact absurd H (by simp)
    · replace c7 := Bool.eq_false_iff.mpr c7
      subst c7
      have H1 : ((spec_l1Cur_ringKey.f k l0 t256 t257).bind fun bt267 => (some (t251, bt267.1))) = some (r1, r2) := by rw [if_neg (show ¬ (false = true) by decide)] at H; exact H
      clear H
      have H := H1
      clear H1
      replace H := Option.bind_eq_some_iff.mp H
      obtain ⟨⟨t267, t268, t269⟩, A270, H⟩ := H
      replace H : (some (t251, t267)) = some (r1, r2) := H
      have A27 := Aside0.mk A270
      clear A270
      simp only [Option.some.injEq, Prod.mk.injEq] at H
      obtain ⟨rfl, rfl⟩ := H
      go_enter Tryd.func8, Tryd.ntmps8
      go_wp2_with (first | ((with_reducible refine gate_dst (N := 9) rfl ?_); refine box_event ?hg (N := 9) ?hd (cs := #[.slice A0 l0.length c0, .int .i64 0, .int .u64 0]) (t := 41) ?hr ?_; (case hd => rfl); (case hg => rfl); (case hr => first | (go_simp; done) | (go_simp; rfl)); intro gb242 hg w28 hbox hb; have n0_ := Aside0.mk (below_step (by repeat (first | (with_reducible first | exact HB.out | apply below_alloc | apply pw_below_drewN | apply below_drew1) | exact HB.out)) hb); have n1_ := Aside0.mk (hbox); have n2_ := Aside0.mk ((by rw [hg]; exact (below_size (by repeat (first | (with_reducible first | exact HB.out | apply below_alloc | apply pw_below_drewN | apply below_drew1) | exact HB.out))) : w.heap.size ≤ gb242)); have n3_ := Aside0.mk ((by rw [hg]; exact (below_size (by repeat (first | (with_reducible first | exact HB.out | apply below_alloc | apply pw_below_drewN | apply below_drew1) | exact HB.out))) : w.heap.size ≤ gb242)); clear HB; have HB := n0_; have BK242 := n1_; have GW242 := n2_; have GE242 := n3_; clear n0_ n1_ n2_ n3_; clear hb hbox hg; have HI242 := Aside0.mk (show IsS41 w w28 gb242 l0 0 0 from ⟨_, _, BK242.out, GE242.out, HR0.out⟩)) | ((with_reducible refine gate_callee (f := 11) rfl ?_); refine goesL_ (some 12) rfl rfl Tryd.func11 (by kernel_rfl) rfl #[.pointer (some ⟨gb242, 0, none⟩)] rfl (by (try simp only [List.map_toArray, List.map_cons, List.map_nil]); first | done | rfl | (simp only [List.length_drop, List.length_take]; rfl)) ?_; (with_reducible refine (spec_l1Cur_servers.calls k gb242 l0 0 0 t243 t246 t247 w _ ?side1 ?side2 A2.out).mono ?_); (case side1 => repeat (first | (with_reducible first | exact HI242.out | apply IsS41.alloc | apply IsS41.drewN | apply IsS41.drew | apply IsS41.set_1 | apply IsS41.set_2) | exact HI242.out)); (case side2 => repeat (first | (with_reducible first | exact HB.out | apply below_alloc | apply pw_below_drewN | apply below_drew1 | refine below_set ?_ (IsS41.ge HI242.out)) | exact HB.out)); rintro e w29 ⟨v244, rfl, ho0, hi, hb, hk⟩; refine ⟨_, rfl, ?_⟩; have n0_ := Aside0.mk (Kd.R_lower ho0 (below_size (by repeat (first | (with_reducible first | exact HB.out | apply below_alloc | apply pw_below_drewN | apply below_drew1 | refine below_set ?_ (IsS41.ge HI242.out)) | exact HB.out)))); have n1_ := Aside0.mk (hb); have n2_ := Aside0.mk (hi); clear HB; clear HI242; have HO245 := n0_; have HB := n1_; have HI242 := n2_; clear n0_ n1_ n2_; (try clear hb); (try clear hb2); (try clear hk); (try clear hi); (try clear ho0)) | ((with_reducible refine gate_callee (f := 12) rfl ?_); refine goesL_ (some 14) rfl rfl Tryd.func12 (by kernel_rfl) rfl #[.pointer (some ⟨gb242, 0, none⟩), .int .i64 4] rfl (by (try simp only [List.map_toArray, List.map_cons, List.map_nil]); first | done | rfl | (simp only [List.length_drop, List.length_take]; rfl)) ?_; (with_reducible refine (spec_l1Cur_pick.calls gb242 l0 t246 t247 4 t248 t249 t250 w _ ?side1 ?side2 A3.out).mono ?_); (case side1 => repeat (first | (with_reducible first | exact HI242.out | apply IsS41.alloc | apply IsS41.drewN | apply IsS41.drew | apply IsS41.set_1 | apply IsS41.set_2) | exact HI242.out)); (case side2 => repeat (first | (with_reducible first | exact HB.out | apply below_alloc | apply pw_below_drewN | apply below_drew1 | refine below_set ?_ (IsS41.ge HI242.out)) | exact HB.out)); rintro e w30 ⟨rfl, hi, hb, hk⟩; refine ⟨_, rfl, ?_⟩; have n0_ := Aside0.mk (Kd.R_mono (Kd.R_keep (IsS41.apart (show IsS41 w _ gb242 l0 t246 t247 from by repeat (first | (with_reducible first | exact HI242.out | apply IsS41.alloc | apply IsS41.drewN | apply IsS41.drew | apply IsS41.set_1 | apply IsS41.set_2) | exact HI242.out)) (by (with_reducible repeat (first | apply Kd.R_alloc | apply Kd.R_drewN | apply Kd.R_drew)); exact HO245.out) (by decide)) hk (fun _ h => h.2)) (fun _ h => h.1)); have n1_ := Aside0.mk (hb); have n2_ := Aside0.mk (hi); clear HO245; clear HB; clear HI242; have HO245 := n0_; have HB := n1_; have HI242 := n2_; clear n0_ n1_ n2_; (try clear hb); (try clear hb2); (try clear hk); (try clear hi); obtain ⟨Ao31, co31, eo31⟩ := Kd.R_slice HO245.out; subst eo31) | ((with_reducible refine gate_callee (f := 6) rfl ?_); refine goesL_ (some 16) rfl rfl Tryd.func6 (by kernel_rfl) rfl #[.slice Ao31 t243.length co31, .int .i64 (wrap64 (1 + t248))] rfl (by (try simp only [List.map_toArray, List.map_cons, List.map_nil]); first | done | rfl | (simp only [List.length_drop, List.length_take]; rfl)) ?_; (with_reducible refine (spec_RingOf.calls k _ _ t243 (wrap64 (1 + t248)) t251 t252 _ ?side1 ?side2 A4.out).mono ?_); (case side1 => repeat (first | exact (Kd.R_reads' HO245.out).2.2 | (with_reducible refine Kd.C_alloc ?_ _) | (with_reducible refine Kd.C_drewN ?_ _) | (with_reducible refine Kd.C_drew ?_))); (case side2 => exact (Kd.R_reads' HO245.out).2.1); rintro e w32 ⟨v253, rfl, ho0, hb⟩; refine ⟨_, rfl, ?_⟩; have n0_ := Aside0.mk (Kd.R_below (by (with_reducible repeat (first | apply Kd.R_alloc | apply Kd.R_drewN | apply Kd.R_drew)); exact HO245.out) hb); have n1_ := Aside0.mk (Kd.R_lower ho0 (below_size (by repeat (first | (with_reducible first | exact HB.out | apply below_alloc | apply pw_below_drewN | apply below_drew1 | refine below_set ?_ (IsS41.ge HI242.out)) | exact HB.out)))); have n2_ := Aside0.mk (IsS41.below (by repeat (first | (with_reducible first | exact HI242.out | apply IsS41.alloc | apply IsS41.drewN | apply IsS41.drew | apply IsS41.set_1 | apply IsS41.set_2) | exact HI242.out)) hb); have n3_ := Aside0.mk (below_step (by repeat (first | (with_reducible first | exact HB.out | apply below_alloc | apply pw_below_drewN | apply below_drew1 | refine below_set ?_ (IsS41.ge HI242.out)) | exact HB.out)) hb); clear HO245; clear HI242; clear HB; have HO245 := n0_; have HO254 := n1_; have HI242 := n2_; have HB := n3_; clear n0_ n1_ n2_ n3_; (try clear hb); (try clear hb2); (try clear hk); (try clear hi); (try clear ho0); obtain ⟨Ao33, co33, eo33⟩ := Kd.R_slice HO254.out; subst eo33) | (go_at_call 24; (with_reducible refine (spec_l1Cur_one.calls gb242 l0 t249 t250 12 false t256 t257 w _ ?side1 ?side2 A6.out).mono ?_); (case side1 => repeat (first | (with_reducible first | exact HI242.out | apply IsS41.alloc | apply IsS41.drewN | apply IsS41.drew | apply IsS41.set_1 | apply IsS41.set_2) | exact HI242.out)); (case side2 => repeat (first | (with_reducible first | exact HB.out | apply below_alloc | apply pw_below_drewN | apply below_drew1 | refine below_set ?_ (IsS41.ge HI242.out)) | exact HB.out)); rintro e w34 ⟨rfl, hi, hb, hk⟩; have n0_ := Aside0.mk (Kd.R_mono (Kd.R_keep (IsS41.apart (show IsS41 w _ gb242 l0 t249 t250 from by repeat (first | (with_reducible first | exact HI242.out | apply IsS41.alloc | apply IsS41.drewN | apply IsS41.drew | apply IsS41.set_1 | apply IsS41.set_2) | exact HI242.out)) (by (with_reducible repeat (first | apply Kd.R_alloc | apply Kd.R_drewN | apply Kd.R_drew)); exact HO245.out) (by decide)) hk (fun _ h => h.2)) (fun _ h => h.1)); have n1_ := Aside0.mk (Kd.R_mono (Kd.R_keep (IsS41.apart (show IsS41 w _ gb242 l0 t249 t250 from by repeat (first | (with_reducible first | exact HI242.out | apply IsS41.alloc | apply IsS41.drewN | apply IsS41.drew | apply IsS41.set_1 | apply IsS41.set_2) | exact HI242.out)) (by (with_reducible repeat (first | apply Kd.R_alloc | apply Kd.R_drewN | apply Kd.R_drew)); exact HO254.out) (by decide)) hk (fun _ h => h.2)) (fun _ h => h.1)); have n2_ := Aside0.mk (hb); have n3_ := Aside0.mk (hi); clear HO245; clear HO254; clear HB; clear HI242; have HO245 := n0_; have HO254 := n1_; have HB := n2_; have HI242 := n3_; clear n0_ n1_ n2_ n3_; (try clear hb); (try clear hb2); (try clear hk); (try clear hi)) | ((with_reducible refine gate_callee (f := 25) rfl ?_); refine goesL_ (some 39) rfl rfl Tryd.func25 (by kernel_rfl) rfl #[.pointer (some ⟨gb242, 0, none⟩)] rfl (by (try simp only [List.map_toArray, List.map_cons, List.map_nil]); first | done | rfl | (simp only [List.length_drop, List.length_take]; rfl)) ?_; (with_reducible refine (spec_l1Cur_ringKey.calls k gb242 l0 t256 t257 t267 t268 t269 w _ ?side1 ?side2 A27.out).mono ?_); (case side1 => repeat (first | (with_reducible first | exact HI242.out | apply IsS41.alloc | apply IsS41.drewN | apply IsS41.drew | apply IsS41.set_1 | apply IsS41.set_2) | exact HI242.out)); (case side2 => repeat (first | (with_reducible first | exact HB.out | apply below_alloc | apply pw_below_drewN | apply below_drew1 | refine below_set ?_ (IsS41.ge HI242.out)) | exact HB.out)); rintro e w35 ⟨rfl, hi, hb, hk⟩; refine ⟨_, rfl, ?_⟩; have n0_ := Aside0.mk (Kd.R_mono (Kd.R_keep (IsS41.apart (show IsS41 w _ gb242 l0 t256 t257 from by repeat (first | (with_reducible first | exact HI242.out | apply IsS41.alloc | apply IsS41.drewN | apply IsS41.drew | apply IsS41.set_1 | apply IsS41.set_2) | exact HI242.out)) (by (with_reducible repeat (first | apply Kd.R_alloc | apply Kd.R_drewN | apply Kd.R_drew)); exact HO245.out) (by decide)) hk (fun _ h => h.2)) (fun _ h => h.1)); have n1_ := Aside0.mk (Kd.R_mono (Kd.R_keep (IsS41.apart (show IsS41 w _ gb242 l0 t256 t257 from by repeat (first | (with_reducible first | exact HI242.out | apply IsS41.alloc | apply IsS41.drewN | apply IsS41.drew | apply IsS41.set_1 | apply IsS41.set_2) | exact HI242.out)) (by (with_reducible repeat (first | apply Kd.R_alloc | apply Kd.R_drewN | apply Kd.R_drew)); exact HO254.out) (by decide)) hk (fun _ h => h.2)) (fun _ h => h.1)); have n2_ := Aside0.mk (hb); have n3_ := Aside0.mk (hi); clear HO245; clear HO254; clear HB; clear HI242; have HO245 := n0_; have HO254 := n1_; have HB := n2_; have HI242 := n3_; clear n0_ n1_ n2_ n3_; (try clear hb); (try clear hb2); (try clear hk); (try clear hi)))
      go_ret2
      exact ⟨_, by first | rfl | (simp [errW_none, errW_some] <;> rfl) | (simp [*, errW_none, errW_some] <;> rfl), by (with_reducible repeat (first | apply Kd.R_alloc | apply Kd.R_drewN | apply Kd.R_drew)); exact HO254.out, by repeat (first | (with_reducible first | exact HB.out | apply below_alloc | apply pw_below_drewN | apply below_drew1 | refine below_set ?_ (IsS41.ge HI242.out)) | exact HB.out)⟩
  · rw [if_neg c5] at H
    have c5b0 : decide (1 < (t251.length : Int)) = false := decide_eq_false c5
    have c5b1 : decide (1 < t251.length) = false := decide_eq_false (by omega)
    clear c5
    replace H := Option.bind_eq_some_iff.mp H
    obtain ⟨⟨t270, t271, t272⟩, A360, H⟩ := H
    replace H : (some (t251, t270)) = some (r1, r2) := H
    have A36 := Aside0.mk A360
    clear A360
    simp only [Option.some.injEq, Prod.mk.injEq] at H
    obtain ⟨rfl, rfl⟩ := H
    go_enter Tryd.func8, Tryd.ntmps8
    go_wp2_with (first | ((with_reducible refine gate_dst (N := 9) rfl ?_); refine box_event ?hg (N := 9) ?hd (cs := #[.slice A0 l0.length c0, .int .i64 0, .int .u64 0]) (t := 41) ?hr ?_; (case hd => rfl); (case hg => rfl); (case hr => first | (go_simp; done) | (go_simp; rfl)); intro gb242 hg w37 hbox hb; have n0_ := Aside0.mk (below_step (by repeat (first | (with_reducible first | exact HB.out | apply below_alloc | apply pw_below_drewN | apply below_drew1) | exact HB.out)) hb); have n1_ := Aside0.mk (hbox); have n2_ := Aside0.mk ((by rw [hg]; exact (below_size (by repeat (first | (with_reducible first | exact HB.out | apply below_alloc | apply pw_below_drewN | apply below_drew1) | exact HB.out))) : w.heap.size ≤ gb242)); have n3_ := Aside0.mk ((by rw [hg]; exact (below_size (by repeat (first | (with_reducible first | exact HB.out | apply below_alloc | apply pw_below_drewN | apply below_drew1) | exact HB.out))) : w.heap.size ≤ gb242)); clear HB; have HB := n0_; have BK242 := n1_; have GW242 := n2_; have GE242 := n3_; clear n0_ n1_ n2_ n3_; clear hb hbox hg; have HI242 := Aside0.mk (show IsS41 w w37 gb242 l0 0 0 from ⟨_, _, BK242.out, GE242.out, HR0.out⟩)) | ((with_reducible refine gate_callee (f := 11) rfl ?_); refine goesL_ (some 12) rfl rfl Tryd.func11 (by kernel_rfl) rfl #[.pointer (some ⟨gb242, 0, none⟩)] rfl (by (try simp only [List.map_toArray, List.map_cons, List.map_nil]); first | done | rfl | (simp only [List.length_drop, List.length_take]; rfl)) ?_; (with_reducible refine (spec_l1Cur_servers.calls k gb242 l0 0 0 t243 t246 t247 w _ ?side1 ?side2 A2.out).mono ?_); (case side1 => repeat (first | (with_reducible first | exact HI242.out | apply IsS41.alloc | apply IsS41.drewN | apply IsS41.drew | apply IsS41.set_1 | apply IsS41.set_2) | exact HI242.out)); (case side2 => repeat (first | (with_reducible first | exact HB.out | apply below_alloc | apply pw_below_drewN | apply below_drew1 | refine below_set ?_ (IsS41.ge HI242.out)) | exact HB.out)); rintro e w38 ⟨v244, rfl, ho0, hi, hb, hk⟩; refine ⟨_, rfl, ?_⟩; have n0_ := Aside0.mk (Kd.R_lower ho0 (below_size (by repeat (first | (with_reducible first | exact HB.out | apply below_alloc | apply pw_below_drewN | apply below_drew1 | refine below_set ?_ (IsS41.ge HI242.out)) | exact HB.out)))); have n1_ := Aside0.mk (hb); have n2_ := Aside0.mk (hi); clear HB; clear HI242; have HO245 := n0_; have HB := n1_; have HI242 := n2_; clear n0_ n1_ n2_; (try clear hb); (try clear hb2); (try clear hk); (try clear hi); (try clear ho0)) | ((with_reducible refine gate_callee (f := 12) rfl ?_); refine goesL_ (some 14) rfl rfl Tryd.func12 (by kernel_rfl) rfl #[.pointer (some ⟨gb242, 0, none⟩), .int .i64 4] rfl (by (try simp only [List.map_toArray, List.map_cons, List.map_nil]); first | done | rfl | (simp only [List.length_drop, List.length_take]; rfl)) ?_; (with_reducible refine (spec_l1Cur_pick.calls gb242 l0 t246 t247 4 t248 t249 t250 w _ ?side1 ?side2 A3.out).mono ?_); (case side1 => repeat (first | (with_reducible first | exact HI242.out | apply IsS41.alloc | apply IsS41.drewN | apply IsS41.drew | apply IsS41.set_1 | apply IsS41.set_2) | exact HI242.out)); (case side2 => repeat (first | (with_reducible first | exact HB.out | apply below_alloc | apply pw_below_drewN | apply below_drew1 | refine below_set ?_ (IsS41.ge HI242.out)) | exact HB.out)); rintro e w39 ⟨rfl, hi, hb, hk⟩; refine ⟨_, rfl, ?_⟩; have n0_ := Aside0.mk (Kd.R_mono (Kd.R_keep (IsS41.apart (show IsS41 w _ gb242 l0 t246 t247 from by repeat (first | (with_reducible first | exact HI242.out | apply IsS41.alloc | apply IsS41.drewN | apply IsS41.drew | apply IsS41.set_1 | apply IsS41.set_2) | exact HI242.out)) (by (with_reducible repeat (first | apply Kd.R_alloc | apply Kd.R_drewN | apply Kd.R_drew)); exact HO245.out) (by decide)) hk (fun _ h => h.2)) (fun _ h => h.1)); have n1_ := Aside0.mk (hb); have n2_ := Aside0.mk (hi); clear HO245; clear HB; clear HI242; have HO245 := n0_; have HB := n1_; have HI242 := n2_; clear n0_ n1_ n2_; (try clear hb); (try clear hb2); (try clear hk); (try clear hi); obtain ⟨Ao40, co40, eo40⟩ := Kd.R_slice HO245.out; subst eo40) | ((with_reducible refine gate_callee (f := 6) rfl ?_); refine goesL_ (some 16) rfl rfl Tryd.func6 (by kernel_rfl) rfl #[.slice Ao40 t243.length co40, .int .i64 (wrap64 (1 + t248))] rfl (by (try simp only [List.map_toArray, List.map_cons, List.map_nil]); first | done | rfl | (simp only [List.length_drop, List.length_take]; rfl)) ?_; (with_reducible refine (spec_RingOf.calls k _ _ t243 (wrap64 (1 + t248)) t251 t252 _ ?side1 ?side2 A4.out).mono ?_); (case side1 => repeat (first | exact (Kd.R_reads' HO245.out).2.2 | (with_reducible refine Kd.C_alloc ?_ _) | (with_reducible refine Kd.C_drewN ?_ _) | (with_reducible refine Kd.C_drew ?_))); (case side2 => exact (Kd.R_reads' HO245.out).2.1); rintro e w41 ⟨v253, rfl, ho0, hb⟩; refine ⟨_, rfl, ?_⟩; have n0_ := Aside0.mk (Kd.R_below (by (with_reducible repeat (first | apply Kd.R_alloc | apply Kd.R_drewN | apply Kd.R_drew)); exact HO245.out) hb); have n1_ := Aside0.mk (Kd.R_lower ho0 (below_size (by repeat (first | (with_reducible first | exact HB.out | apply below_alloc | apply pw_below_drewN | apply below_drew1 | refine below_set ?_ (IsS41.ge HI242.out)) | exact HB.out)))); have n2_ := Aside0.mk (IsS41.below (by repeat (first | (with_reducible first | exact HI242.out | apply IsS41.alloc | apply IsS41.drewN | apply IsS41.drew | apply IsS41.set_1 | apply IsS41.set_2) | exact HI242.out)) hb); have n3_ := Aside0.mk (below_step (by repeat (first | (with_reducible first | exact HB.out | apply below_alloc | apply pw_below_drewN | apply below_drew1 | refine below_set ?_ (IsS41.ge HI242.out)) | exact HB.out)) hb); clear HO245; clear HI242; clear HB; have HO245 := n0_; have HO254 := n1_; have HI242 := n2_; have HB := n3_; clear n0_ n1_ n2_ n3_; (try clear hb); (try clear hb2); (try clear hk); (try clear hi); (try clear ho0); obtain ⟨Ao42, co42, eo42⟩ := Kd.R_slice HO254.out; subst eo42) | ((with_reducible refine gate_callee (f := 25) rfl ?_); refine goesL_ (some 39) rfl rfl Tryd.func25 (by kernel_rfl) rfl #[.pointer (some ⟨gb242, 0, none⟩)] rfl (by (try simp only [List.map_toArray, List.map_cons, List.map_nil]); first | done | rfl | (simp only [List.length_drop, List.length_take]; rfl)) ?_; (with_reducible refine (spec_l1Cur_ringKey.calls k gb242 l0 t249 t250 t270 t271 t272 w _ ?side1 ?side2 A36.out).mono ?_); (case side1 => repeat (first | (with_reducible first | exact HI242.out | apply IsS41.alloc | apply IsS41.drewN | apply IsS41.drew | apply IsS41.set_1 | apply IsS41.set_2) | exact HI242.out)); (case side2 => repeat (first | (with_reducible first | exact HB.out | apply below_alloc | apply pw_below_drewN | apply below_drew1 | refine below_set ?_ (IsS41.ge HI242.out)) | exact HB.out)); rintro e w43 ⟨rfl, hi, hb, hk⟩; refine ⟨_, rfl, ?_⟩; have n0_ := Aside0.mk (Kd.R_mono (Kd.R_keep (IsS41.apart (show IsS41 w _ gb242 l0 t249 t250 from by repeat (first | (with_reducible first | exact HI242.out | apply IsS41.alloc | apply IsS41.drewN | apply IsS41.drew | apply IsS41.set_1 | apply IsS41.set_2) | exact HI242.out)) (by (with_reducible repeat (first | apply Kd.R_alloc | apply Kd.R_drewN | apply Kd.R_drew)); exact HO245.out) (by decide)) hk (fun _ h => h.2)) (fun _ h => h.1)); have n1_ := Aside0.mk (Kd.R_mono (Kd.R_keep (IsS41.apart (show IsS41 w _ gb242 l0 t249 t250 from by repeat (first | (with_reducible first | exact HI242.out | apply IsS41.alloc | apply IsS41.drewN | apply IsS41.drew | apply IsS41.set_1 | apply IsS41.set_2) | exact HI242.out)) (by (with_reducible repeat (first | apply Kd.R_alloc | apply Kd.R_drewN | apply Kd.R_drew)); exact HO254.out) (by decide)) hk (fun _ h => h.2)) (fun _ h => h.1)); have n2_ := Aside0.mk (hb); have n3_ := Aside0.mk (hi); clear HO245; clear HO254; clear HB; clear HI242; have HO245 := n0_; have HO254 := n1_; have HB := n2_; have HI242 := n3_; clear n0_ n1_ n2_ n3_; (try clear hb); (try clear hb2); (try clear hk); (try clear hi)))
    go_ret2
    exact ⟨_, by first | rfl | (simp [errW_none, errW_some] <;> rfl) | (simp [*, errW_none, errW_some] <;> rfl), by (with_reducible repeat (first | apply Kd.R_alloc | apply Kd.R_drewN | apply Kd.R_drew)); exact HO254.out, by repeat (first | (with_reducible first | exact HB.out | apply below_alloc | apply pw_below_drewN | apply below_drew1 | refine below_set ?_ (IsS41.ge HI242.out)) | exact HB.out)⟩

-- NOT PRINTED: function 26 (impl_Point_26)

-- NOT PRINTED: function 30 (impl_Point_30)

-- NOT PRINTED: function 43 (impl_Point_43)

-- NOT PRINTED: function 44 (impl_Point_1)

-- NOT PRINTED: function 27 (impl_Point_27)

/-! ### impl_RingServer_1: function 28 -/
def impl_RingServer_1.f (a0_0 : Int) (a0_1 : Int) : Option (Bool) := (impl_isServer.f a0_1).bind fun t274 => (some t274)
set_option maxHeartbeats 8000000 in
set_option maxRecDepth 100000 in
theorem impl_RingServer_1.calls (a0_0 : Int) (a0_1 : Int) (r : Bool) (w : World) (h : impl_RingServer_1.f a0_0 a0_1 = some r) :
    Calls Tryd.prog 28 #[.agg #[.int .u32 a0_0, .int .i64 a0_1]] w fun e w' => e = .returned (.bool r) ∧ Below w.heap.size w w' := by
  have hu31 := Tryd.underlying31
  have HB := Aside0.mk (Below.refl w.heap.size w)
  have H : ((impl_isServer.f a0_1).bind fun t274 => (some t274)) = some r := h
  clear h
  replace H := Option.bind_eq_some_iff.mp H
  obtain ⟨t274, A20, H⟩ := H
  replace H : (some t274) = some r := H
  have A2 := Aside0.mk A20
  clear A20
  obtain rfl := Option.some.inj H
  go_enter Tryd.func28, Tryd.ntmps28
  go_wp2_with (first | ((with_reducible refine gate_dst (N := 1) rfl ?_); refine box_event ?hg (N := 1) ?hd (cs := #[.int .u32 a0_0, .int .i64 a0_1]) (t := 31) ?hr ?_; (case hd => rfl); (case hg => rfl); (case hr => first | (go_simp; done) | (go_simp; rfl)); intro gb273 hg w3 hbox hb; have n0_ := Aside0.mk (below_step (by repeat (first | (with_reducible first | exact HB.out | apply below_alloc | apply pw_below_drewN | apply below_drew1) | exact HB.out)) hb); have n1_ := Aside0.mk (hbox); have n2_ := Aside0.mk ((by rw [hg]; exact (below_size (by repeat (first | (with_reducible first | exact HB.out | apply below_alloc | apply pw_below_drewN | apply below_drew1) | exact HB.out))) : w.heap.size ≤ gb273)); have n3_ := Aside0.mk ((by rw [hg]; exact (below_size (by repeat (first | (with_reducible first | exact HB.out | apply below_alloc | apply pw_below_drewN | apply below_drew1) | exact HB.out))) : w.heap.size ≤ gb273)); clear HB; have HB := n0_; have BK273 := n1_; have GW273 := n2_; have GE273 := n3_; clear n0_ n1_ n2_ n3_; clear hb hbox hg; have hcz4_0 : w3.cell? ⟨gb273, 0, none⟩ = some (.int .u32 a0_0) := (blk_cell BK273.out 0).trans rfl; have hcz4_1 : w3.cell? ⟨gb273, 1, none⟩ = some (.int .i64 a0_1) := (blk_cell BK273.out 1).trans rfl; have hfz4_0 := blk_frozen BK273.out 0; have hfz4_1 := blk_frozen BK273.out 1) | ((with_reducible refine gate_callee (f := 29) rfl ?_); refine goesL_ (some 5) rfl rfl Tryd.func29 (by kernel_rfl) rfl #[.int .i64 a0_1] rfl (by (try simp only [List.map_toArray, List.map_cons, List.map_nil]); first | done | rfl | (simp only [List.length_drop, List.length_take]; rfl)) ?_; (with_reducible refine (impl_isServer.calls a0_1 t274 _ A2.out).mono ?_); rintro e w' ⟨rfl, ⟨nd, rfl⟩⟩; refine ⟨_, rfl, ?_⟩))
  go_ret
  exact ⟨by first | rfl | (simp [errW_none, errW_some] <;> rfl) | (simp [*, errW_none, errW_some] <;> rfl), by repeat (first | (with_reducible first | exact HB.out | apply below_alloc | apply pw_below_drewN | apply below_drew1 | refine below_set ?_ GE273.out) | exact HB.out)⟩

-- NOT PRINTED: function 31 (impl_RingServer_2)

/-! ### RingServer by hand: functions 26 (slices.IsSortedFunc), 31, 30 (slices.IndexFunc), 9 -/
/-! ### areAll, function 27, at any predicate -/
set_option maxHeartbeats 800000 in
theorem areAll_g27.neg (h : Nat) (p : S31 → Option Bool) (hp : PredOk Tryd.prog h (fun x : S31 => Value.agg #[.int .u32 x.f0, .int .i64 x.f1]) p) (eg : ∀ args w, (callFunc h args).run Tryd.prog w = .ok (.enter h args) w)
    (x : S31) (r : Bool) (b : Nat) (w : World) (hb : b < w.heap.size) (hc : w.cell? ⟨b, 0, none⟩ = some (.func (.func h) #[] #[])) (hx : p x = some r) :
    Calls Tryd.prog 44 #[.agg #[.int .u32 x.f0, .int .i64 x.f1], .pointer (some ⟨b, 0, none⟩)] w fun e w' => e = .returned (.bool (!r)) ∧ Below w.heap.size w w' := by
  have hh := hp x r
  clear hp
  go_enter Tryd.func44, Tryd.ntmps44
  go_wp2_with (go_at_fn h; refine (hh _ hx).mono ?_; rintro e w' ⟨rfl, hb'⟩)
  go_ret
  exact ⟨rfl, below_then (below_alloc (Below.refl _ _) _) (by simp) hb'⟩
set_option maxHeartbeats 800000 in
theorem areAll_g27.idx (h : Nat) (p : S31 → Option Bool) (hp : PredOk Tryd.prog h (fun x : S31 => Value.agg #[.int .u32 x.f0, .int .i64 x.f1]) p) (eg : ∀ args w, (callFunc h args).run Tryd.prog w = .ok (.enter h args) w)
    (eg90 : ∀ args w, (callFunc 44 args).run Tryd.prog w = .ok (.enter 44 args) w)
    (A : Option Addr) (c : Nat) (l : List S31) (r : Int) (b : Nat) (w : World) (hr : Kd.C k31 w A l.length l) (hb : b < w.heap.size) (hcb : w.cell? ⟨b, 0, none⟩ = some (.func (.func h) #[] #[])) (hx : idxO p l 0 = some r) :
    Calls Tryd.prog 30 #[.slice A l.length c, .func (.func 44) #[] #[.pointer (some ⟨b, 0, none⟩)]] w fun e w' => e = .returned (.int .i64 r) ∧ Below w.heap.size w w' := by
  have hm := Kd.C_max hr
  have HX := Aside0.mk hx
  have HP := Aside0.mk hp
  have HR := Aside0.mk hr
  have HC := Aside0.mk hcb
  have EG := Aside0.mk eg
  clear hx hp hr hcb eg
  go_enter Tryd.func30, Tryd.ntmps30
  go_wp2
  go_loopg [5, 8] l.length (fun gg _ s8 wr => ∃ j : Nat, j ≤ l.length ∧ l.length - j ≤ gg ∧ s8 = .int .i64 j ∧ Aside0 (Below w.heap.size w wr) ∧ Aside0 (idxO p (l.drop j) j = some r))
  case atStart => exact ⟨0, Nat.zero_le _, by omega, rfl, ⟨Below.refl _ w⟩, ⟨HX.out⟩⟩
  case round =>
    obtain ⟨j, hj, hg, rfl, BW, HA⟩ := hrel
    by_cases hlt : j < l.length
    · have hlt' : (j : Int) < (l.length : Int) := by omega
      have h0 : (0 : Int) ≤ (j : Int) := by omega
      obtain ⟨bo, hbo, hy, hn⟩ := idxO_step p l z31 j hlt r HA.out
      obtain ⟨ad, ea, hx0, hx1⟩ := at_T31 (Kd.C_below HR.out BW.out) (j : Int) h0 hlt'
      cases ea
      simp only [Int.toNat_natCast] at hx0 hx1
      have hc2 := (BW.out.cell (p := ⟨b, 0, none⟩) hb).trans HC.out
      have hbw : w.heap.size ≤ wr.heap.size := BW.out.size
      rw [show rd_T31 l (j : Int) = l.getD j z31 from rfl] at hx0 hx1
      generalize l.getD j z31 = y at hbo hx0 hx1
      have hcall := areAll_g27.neg h p HP.out EG.out y bo b wr (by omega) hc2 hbo
      have HY := Aside0.mk hy
      have HN := Aside0.mk hn
      have HC2 := Aside0.mk hcall
      clear hy hn hbo hcall hc2
      cases bo with
      | true =>
        go_wp2_with (go_at_fn 44; refine HC2.out.mono ?_; rintro e w' ⟨rfl, hb'⟩)
        go_roundg (l.length - (j + 1))
        case measure => omega
        case rel => exact ⟨j + 1, by omega, by omega, by go_num, ⟨below_then BW.out hbw hb'⟩, ⟨HY.out (by simp)⟩⟩
      | false =>
        go_wp2_with (go_at_fn 44; refine HC2.out.mono ?_; rintro e w' ⟨rfl, hb'⟩)
        go_ret
        exact ⟨congrArg (fun z => Ending.returned (.int .i64 z)) (HN.out (by simp)).symm, below_then BW.out hbw hb'⟩
    · have hlt' : ¬ (j : Int) < (l.length : Int) := by omega
      have : j = l.length := by omega
      subst this
      have HA2 := HA.out
      rw [List.drop_length] at HA2
      simp only [idxO, Option.some.injEq] at HA2
      have HA3 := Aside0.mk HA2
      clear HA2
      go_wp2
      go_ret
      exact ⟨congrArg (fun z => Ending.returned (.int .i64 z)) HA3.out, BW.out⟩
set_option maxHeartbeats 800000 in
theorem areAll_g27.has (h : Nat) (p : S31 → Option Bool) (hp : PredOk Tryd.prog h (fun x : S31 => Value.agg #[.int .u32 x.f0, .int .i64 x.f1]) p) (eg : ∀ args w, (callFunc h args).run Tryd.prog w = .ok (.enter h args) w)
    (eg90 : ∀ args w, (callFunc 44 args).run Tryd.prog w = .ok (.enter 44 args) w)
    (A : Option Addr) (c : Nat) (l : List S31) (r : Bool) (b : Nat) (w : World) (hr : Kd.C k31 w A l.length l) (hb : b < w.heap.size) (hcb : w.cell? ⟨b, 0, none⟩ = some (.func (.func h) #[] #[])) (hx : allO p l = some r) :
    Calls Tryd.prog 43 #[.slice A l.length c, .func (.func 44) #[] #[.pointer (some ⟨b, 0, none⟩)]] w fun e w' => e = .returned (.bool (!r)) ∧ Below w.heap.size w w' := by
  obtain ⟨i, hi, h1, h2⟩ := allO_idx p l r hx 0
  have hcall := fun W hr hb hcb => areAll_g27.idx h p hp eg eg90 A c l i b W hr hb hcb hi
  have HC := Aside0.mk hcall
  have HR := Aside0.mk hr
  have HB := Aside0.mk hcb
  have EG := Aside0.mk eg
  clear hcall hr hp hx hi hcb eg
  cases r with
  | true =>
    obtain rfl := h1 rfl
    clear h1 h2
    go_enter Tryd.func43, Tryd.ntmps43
    go_wp2_with (go_at_call 30; refine (HC.out _ HR.out hb HB.out).mono ?_; rintro e w' ⟨rfl, hb'⟩)
    go_ret
    exact ⟨rfl, hb'⟩
  | false =>
    have h3 := h2 rfl
    have h4 : decide (0 ≤ i) = true := decide_eq_true h3
    clear h1 h2
    go_enter Tryd.func43, Tryd.ntmps43
    go_wp2_with (go_at_call 30; refine (HC.out _ HR.out hb HB.out).mono ?_; rintro e w' ⟨rfl, hb'⟩)
    go_ret
    exact ⟨rfl, hb'⟩
set_option maxHeartbeats 800000 in
theorem areAll_g27.all (h : Nat) (p : S31 → Option Bool) (hp : PredOk Tryd.prog h (fun x : S31 => Value.agg #[.int .u32 x.f0, .int .i64 x.f1]) p) (eg : ∀ args w, (callFunc h args).run Tryd.prog w = .ok (.enter h args) w)
    (A : Option Addr) (c : Nat) (l : List S31) (r : Bool) (w : World) (hr : Kd.C k31 w A l.length l) (hx : allO p l = some r) :
    Calls Tryd.prog 27 #[.slice A l.length c, .func (.func h) #[] #[]] w fun e w' => e = .returned (.bool r) ∧ Below w.heap.size w w' := by
  have eg90 : ∀ args w, (callFunc 44 args).run Tryd.prog w = .ok (.enter 44 args) w := enters_of Tryd.func44 (by kernel_rfl) rfl
  have hcall := fun W b hr hb hcb => areAll_g27.has h p hp eg eg90 A c l r b W hr hb hcb hx
  have HC := Aside0.mk hcall
  have HR := Aside0.mk hr
  have EG := Aside0.mk eg
  clear hcall hr hp hx eg
  go_enter Tryd.func27, Tryd.ntmps27
  go_wp2_with (go_at_call 43; refine (HC.out _ _ (Kd.C_alloc HR.out _) (by simp) (by simp)).mono ?_; rintro e w' ⟨rfl, hb'⟩)
  go_ret
  exact ⟨rfl, below_then (below_alloc (Below.refl _ _) _) (by simp) hb'⟩
/-- The hash of a text, byte by byte. -/
def hashN (s : ByteArray) : Nat → Nat → Int → Int
  | 0, _, h => h
  | d + 1, j, h => hashN s d (j + 1) (((Go.bits .xor .u32 h ((bt s (j : Int)) % 4294967296)) * 16777619) % 4294967296)
def hashT (s : ByteArray) : Int :=
  Go.bits .xor .u32 (((Go.bits .xor .u32 (hashN s s.size 0 2166136261) ((hashN s s.size 0 2166136261) / 32768)) * 2246822507) % 4294967296) ((((Go.bits .xor .u32 (hashN s s.size 0 2166136261) ((hashN s s.size 0 2166136261) / 32768)) * 2246822507) % 4294967296) / 8192)
theorem hashN_is (s : ByteArray) (hs : s.size ≤ 4611686018427387904) (d : Nat) : ∀ (j k : Nat) (h : Int), j + d = s.size → d < k → impl_hashed.l0 k h s (s.size : Int) (j : Int) = some (hashN s d j h) := by
  induction d with
  | zero =>
    intro j k h hj hk
    obtain ⟨k, rfl⟩ : ∃ m, k = m + 1 := ⟨k - 1, by omega⟩
    simp only [impl_hashed.l0]; rw [if_neg (by omega)]; rfl
  | succ d ih =>
    intro j k h hj hk
    obtain ⟨k, rfl⟩ : ∃ m, k = m + 1 := ⟨k - 1, by omega⟩
    simp only [impl_hashed.l0]
    rw [if_pos (by omega), if_pos (by omega), if_pos (by omega), show wrap64 ((j : Int) + 1) = ((j + 1 : Nat) : Int) by unfold wrap64; omega, ih (j + 1) k _ (by omega) (by omega)]
    rfl
theorem hashT_is (s : ByteArray) (hs : s.size ≤ 4611686018427387904) : impl_HashOf.f (s.size + 1) s = some (hashT s) := by
  unfold impl_HashOf.f impl_hashed.f
  rw [show (0 : Int) = ((0 : Nat) : Int) from rfl, hashN_is s hs s.size 0 (s.size + 1) _ (by omega) (by omega)]
  rfl
theorem hashT_calls (s : ByteArray) (hs : s.size ≤ 4611686018427387904) (w : World) : Calls Tryd.prog 15 #[.string s] w fun e w' => e = .returned (.int .u32 (hashT s)) ∧ ∃ m, w' = w.drewN m :=
  (impl_HashOf.calls (s.size + 1) s (hashT s) w (hashT_is s hs)).mono fun _ _ h => ⟨h.1, h.2.out⟩
section
open Go.Proofs Go.Sort Go.Lib
def dnB (l : List S31) : Nat → Bool
  | 0 => true
  | i + 1 => !(ltOf cmpPt (l.getD (i + 1) z31) (l.getD i z31)) && dnB l i
set_option maxHeartbeats 2000000 in
set_option maxRecDepth 100000 in
theorem rs26 (A : Option Addr) (c : Nat) (l : List S31) (hl : 0 < l.length) (r : Bool) (hr0 : dnB l (l.length - 1) = r) (w : World) (hr : Kd.C k31 w A l.length l) :
    Calls Tryd.prog 26 #[.slice A l.length c, .func (.func 18) #[] #[]] w fun e w' => e = .returned (.bool r) ∧ Below w.heap.size w w' := by
  have hm := Kd.C_max hr
  have e18 : ∀ args w, (callFunc 18 args).run Tryd.prog w = .ok (.enter 18 args) w := enters_of Tryd.func18 (by kernel_rfl) rfl
  have HR := Aside0.mk hr
  have HD0 := Aside0.mk hr0
  clear hr hr0
  have hw0 : wrap64 ((l.length : Int) - 1) = ((l.length - 1 : Nat) : Int) := by unfold wrap64; omega
  have hu31 := Tryd.underlying31
  have mixed : Tryd.prog.follows .mixedOrders = true := by kernel_rfl
  have zE := Tryd.sizeOf31
  have aE := Tryd.isAgg31
  go_enter Tryd.func26, Tryd.ntmps26
  go_wp2
  go_loopg [5] l.length (fun gg v5 wr => ∃ i : Nat, i < l.length ∧ i < gg ∧ v5 = .int .i64 i ∧ Aside0 (dnB l i = r) ∧ Aside0 (Below w.heap.size w wr))
  case atStart => exact ⟨l.length - 1, by omega, by omega, by rw [show ((l.length - 1 : Nat) : Int) = (l.length : Int) - 1 by omega], ⟨HD0.out⟩, ⟨Below.refl _ _⟩⟩
  case round =>
    obtain ⟨i, hi, hg, rfl, HD, HB⟩ := hrel
    clear hw0
    by_cases h0 : 0 < i
    · obtain ⟨j, hj⟩ : ∃ m, i = m + 1 := ⟨i - 1, by omega⟩
      have hwi : IntKind.i64.wrap ((i : Int) - 1) = (j : Int) := by simp [IntKind.wrap, IntKind.bits, IntKind.signed]; omega
      have hgt : decide ((i : Int) > 0) = true := decide_eq_true (by omega)
      have p1 : (0 : Int) ≤ (i : Int) := by omega
      have q1 : (i : Int) < (l.length : Int) := by omega
      have p2 : (0 : Int) ≤ (j : Int) := by omega
      have q2 : (j : Int) < (l.length : Int) := by omega
      obtain ⟨ad, ea, hx0, hx1⟩ := at_T31 (Kd.C_below HR.out HB.out) (i : Int) p1 q1
      cases ea
      obtain ⟨ad', ea, hy0, hy1⟩ := at_T31 (Kd.C_below HR.out HB.out) (j : Int) p2 q2
      cases ea
      have ej : rd_T31 l (j : Int) = l.getD j z31 := rfl
      rw [show rd_T31 l (i : Int) = l.getD (j + 1) z31 from by rw [hj]; rfl] at hx0 hx1
      rw [ej] at hy0 hy1
      simp only [Int.toNat_natCast] at hx0 hx1 hy0 hy1
      have hD := HD.out
      rw [hj] at hD
      unfold dnB at hD
      clear ej
      generalize l.getD (j + 1) z31 = Y at hx0 hx1 hD
      generalize l.getD j z31 = X at hy0 hy1 hD
      have gx0 := cell_grown (World.block_lt_of_cell? _ _ hx0) hx0
      have gx1 := cell_grown (World.block_lt_of_cell? _ _ hx1) hx1
      have gy0 := cell_grown (World.block_lt_of_cell? _ _ hy0) hy0
      have gy1 := cell_grown (World.block_lt_of_cell? _ _ hy1) hy1
      clear hx0 hx1 hy0 hy1
      have hC := fun n os => rg60 Y X (grow (wr.drewN n) os)
      unfold ltOf at hD
      generalize cmpPt Y X = q at hC hD
      clear HD
      have HJ := Aside0.mk hj
      clear hj
      by_cases cq : q < 0
      · rw [decide_eq_true cq] at hD
        have hD2 := Aside0.mk hD.symm
        clear hD
        have cq1 : decide (q < 0) = true := decide_eq_true cq
        go_wp2_with fail
        go_quiet_grown (first | (go_at_fn 18; refine Calls.grown_of (hC _ _)))
        go_wp2
        go_ret
        exact ⟨by rw [hD2.out]; rfl, below_then HB.out (HB.out.size) (Lib.below_grow _ _ (Nat.le_refl _) _ _)⟩
      · rw [decide_eq_false cq] at hD
        have hD2 := Aside0.mk hD
        clear hD
        have cq1 : decide (q < 0) = false := decide_eq_false cq
        go_wp2_with fail
        go_quiet_grown (first | (go_at_fn 18; refine Calls.grown_of (hC _ _)))
        go_wp2
        go_roundg i
        case measure => have := HJ.out; omega
        case rel => exact ⟨j, by have := HJ.out; omega, by have := HJ.out; omega, rfl, ⟨hD2.out⟩, ⟨below_then HB.out (HB.out.size) (Lib.below_grow _ _ (Nat.le_refl _) _ _)⟩⟩
    · obtain rfl : i = 0 := by omega
      have hD2 := Aside0.mk (show r = true from HD.out.symm)
      clear HD
      go_wp2
      go_ret
      exact ⟨by rw [hD2.out]; rfl, HB.out⟩
/-! the two predicates -/
def okSv (x : S31) : Option Bool := some (decide (0 ≤ x.f1 ∧ x.f1 ≤ 99))
theorem okSv_pred : PredOk Tryd.prog 28 (fun x : S31 => Value.agg #[.int .u32 x.f0, .int .i64 x.f1]) okSv := fun x r w h => by
  refine impl_RingServer_1.calls x.f0 x.f1 r w ?_
  unfold impl_RingServer_1.f impl_isServer.f impl_within.f
  obtain rfl := Option.some.inj h
  by_cases c : 0 ≤ x.f1
  · rw [if_pos c]
    show some (decide (x.f1 ≤ 99)) = _
    congr 1
    exact decide_eq_decide.2 ⟨fun h => ⟨c, h⟩, fun h => h.2⟩
  · rw [if_neg c, decide_eq_false (fun h => c h.1)]
    rfl
set_option maxHeartbeats 1000000 in
set_option maxRecDepth 100000 in
theorem rs31 (x : S31) (h : Int) (b : Nat) (w : World) (hb : b < w.heap.size) (hc : w.cell? ⟨b, 0, none⟩ = some (.int .u32 h)) :
    Calls Tryd.prog 31 #[.agg #[.int .u32 x.f0, .int .i64 x.f1], .pointer (some ⟨b, 0, none⟩)] w fun e w' => e = .returned (.bool (decide (x.f0 ≥ h))) ∧ Below w.heap.size w w' := by
  have hu31 := Tryd.underlying31
  have mixed : Tryd.prog.follows .mixedOrders = true := by kernel_rfl
  obtain ⟨w1, hw1⟩ : ∃ w1, w.alloc (.cells #[.int .u32 x.f0, .int .i64 x.f1] 31) = w1 := ⟨_, rfl⟩
  obtain ⟨B0, hB0⟩ : ∃ B0, w.heap.size = B0 := ⟨_, rfl⟩
  have c0 : w1.cell? ⟨B0, 0, none⟩ = some (.int .u32 x.f0) := by rw [← hw1, ← hB0]; exact cell_new _ _ 0 _ _ rfl
  have c1 : w1.cell? ⟨b, 0, none⟩ = some (.int .u32 h) := by rw [← hw1]; exact cell_old _ _ _ _ hc
  have HB := Aside0.mk (show Below w.heap.size w w1 by rw [← hw1]; exact below_alloc (Below.refl _ _) _)
  clear hc
  go_enter Tryd.func31, Tryd.ntmps31
  go_wp2
  go_ret
  exact ⟨rfl, HB.out⟩
/-- The place of the first point from a hash on, or -1. -/
def fstH (h : Int) : List S31 → Int → Int
  | [], _ => -1
  | x :: xs, i => if x.f0 ≥ h then i else fstH h xs (i + 1)
set_option maxHeartbeats 1000000 in
set_option maxRecDepth 100000 in
theorem rs30 (A : Option Addr) (c : Nat) (l : List S31) (h : Int) (b : Nat) (w : World) (hr : Kd.C k31 w A l.length l) (hb : b < w.heap.size) (hcb : w.cell? ⟨b, 0, none⟩ = some (.int .u32 h)) :
    Calls Tryd.prog 30 #[.slice A l.length c, .func (.func 31) #[] #[.pointer (some ⟨b, 0, none⟩)]] w fun e w' => e = .returned (.int .i64 (fstH h l 0)) ∧ Below w.heap.size w w' := by
  have hm := Kd.C_max hr
  have eg : ∀ args w, (callFunc 31 args).run Tryd.prog w = .ok (.enter 31 args) w := enters_of Tryd.func31 (by kernel_rfl) rfl
  have HR := Aside0.mk hr
  have HC := Aside0.mk hcb
  clear hr hcb
  obtain ⟨r, hr⟩ : ∃ r, fstH h l 0 = r := ⟨_, rfl⟩
  rw [hr]
  have HX := Aside0.mk hr
  clear hr
  go_enter Tryd.func30, Tryd.ntmps30
  go_wp2
  go_loopg [5, 8] l.length (fun gg _ s8 wr => ∃ j : Nat, j ≤ l.length ∧ l.length - j ≤ gg ∧ s8 = .int .i64 j ∧ Aside0 (Below w.heap.size w wr) ∧ Aside0 (fstH h (l.drop j) j = r))
  case atStart => exact ⟨0, Nat.zero_le _, by omega, rfl, ⟨Below.refl _ w⟩, ⟨HX.out⟩⟩
  case round =>
    obtain ⟨j, hj, hg, rfl, BW, HA⟩ := hrel
    by_cases hlt : j < l.length
    · have hlt' : (j : Int) < (l.length : Int) := by omega
      have h0 : (0 : Int) ≤ (j : Int) := by omega
      have hA := HA.out
      rw [List.drop_eq_getElem_cons hlt, fstH] at hA
      obtain ⟨ad, ea, hx0, hx1⟩ := at_T31 (Kd.C_below HR.out BW.out) (j : Int) h0 hlt'
      cases ea
      simp only [Int.toNat_natCast] at hx0 hx1
      have hc2 := (BW.out.cell (p := ⟨b, 0, none⟩) hb).trans HC.out
      have hbw : w.heap.size ≤ wr.heap.size := BW.out.size
      rw [show rd_T31 l (j : Int) = l[j] by show l.getD j z31 = _; rw [List.getD_eq_getElem?_getD, List.getElem?_eq_getElem hlt]; rfl] at hx0 hx1
      generalize l[j] = y at hA hx0 hx1
      have HC2 := Aside0.mk (rs31 y h b wr (by omega) hc2)
      clear hc2
      by_cases cy : y.f0 ≥ h
      · rw [if_pos cy] at hA
        rw [decide_eq_true cy] at HC2
        have HN := Aside0.mk hA
        clear hA
        go_wp2_with (go_at_fn 31; refine HC2.out.mono ?_; rintro e w' ⟨rfl, hb'⟩)
        go_ret
        exact ⟨congrArg (fun z => Ending.returned (.int .i64 z)) HN.out, below_then BW.out hbw hb'⟩
      · rw [if_neg cy] at hA
        rw [decide_eq_false cy] at HC2
        have HN := Aside0.mk hA
        clear hA
        go_wp2_with (go_at_fn 31; refine HC2.out.mono ?_; rintro e w' ⟨rfl, hb'⟩)
        go_roundg (l.length - (j + 1))
        case measure => omega
        case rel => exact ⟨j + 1, by omega, by omega, by go_num, ⟨below_then BW.out hbw hb'⟩, ⟨HN.out⟩⟩
    · have hlt' : ¬ (j : Int) < (l.length : Int) := by omega
      have : j = l.length := by omega
      subst this
      have HA2 := HA.out
      rw [List.drop_length] at HA2
      have HA3 := Aside0.mk (show (-1 : Int) = r from HA2)
      clear HA2
      go_wp2
      go_ret
      exact ⟨congrArg (fun z => Ending.returned (.int .i64 z)) HA3.out, BW.out⟩
theorem allO_ok : ∀ l : List S31, ∃ b, allO okSv l = some b
  | [] => ⟨true, rfl⟩
  | x :: xs => by
    obtain ⟨b, hb⟩ := allO_ok xs
    unfold allO okSv
    by_cases c : 0 ≤ x.f1 ∧ x.f1 ≤ 99
    · exact ⟨b, by rw [decide_eq_true c]; exact hb⟩
    · exact ⟨false, by rw [decide_eq_false c]; rfl⟩
theorem fstH_in (h : Int) : ∀ (l : List S31) (i : Nat), fstH h l (i : Int) = -1 ∨ ((i : Int) ≤ fstH h l (i : Int) ∧ fstH h l (i : Int) < (i : Int) + l.length)
  | [], i => .inl rfl
  | x :: xs, i => by
    unfold fstH
    split
    · exact .inr ⟨Int.le_refl _, by simp only [List.length_cons]; omega⟩
    · have := fstH_in h xs (i + 1)
      rw [show ((i + 1 : Nat) : Int) = (i : Int) + 1 by omega] at this
      simp only [List.length_cons]
      omega
theorem rsBox (w w2 : World) (md : Nat) (h : Int) (hB : Below w.heap.size w w2) :
    ((w2.drewN md).alloc (Obj.cells #[.int .u32 0] 29)).cell? ⟨w2.heap.size, 0, none⟩ = some (.int .u32 0) ∧ ((w2.drewN md).alloc (Obj.cells #[.int .u32 0] 29)).frozen? ⟨w2.heap.size, 0, none⟩ = false ∧
    (((w2.drewN md).alloc (Obj.cells #[.int .u32 0] 29)).setCell ⟨w2.heap.size, 0, none⟩ (.int .u32 h)).cell? ⟨w2.heap.size, 0, none⟩ = some (.int .u32 h) ∧
    Below w.heap.size w (((w2.drewN md).alloc (Obj.cells #[.int .u32 0] 29)).setCell ⟨w2.heap.size, 0, none⟩ (.int .u32 h)) := by
  have h1 : Below w.heap.size w (w2.drewN md) := hB.trans ⟨rfl, rfl, rfl, Nat.le_refl _, fun _ _ => rfl⟩
  have hc : ((w2.drewN md).alloc (Obj.cells #[.int .u32 0] 29)).cell? ⟨w2.heap.size, 0, none⟩ = some (.int .u32 0) := (cell_new (w2.drewN md) w2.heap.size 0 _ _ rfl).trans rfl
  refine ⟨hc, ?_, World.cell?_setCell_same' _ _ _ (by rw [hc]; rfl), (h1.alloc hB.size _).setCell hB.size _⟩
  unfold World.frozen?
  rw [show ((w2.drewN md).alloc (Obj.cells #[.int .u32 0] 29)).heap[w2.heap.size]? = some (Obj.cells #[.int .u32 0] 29) by rw [alloc_eq_grow]; show (w2.heap ++ #[_])[w2.heap.size]? = _; simp]
  rfl
def ringSv (l : List S31) (key : ByteArray) : Int × Bool :=
  if l.length = 0 ∨ 96 < l.length then (0, false) else if dnB l (l.length - 1) = true then (if allO okSv l = some true then ((l.getD (max (fstH (hashT key) l 0) 0).toNat z31).f1, true) else (0, false)) else (0, false)
def impl_RingServer.f (l0 : List S31) (a1 : ByteArray) : Option (Int × Bool) := if a1.size ≤ 4611686018427387904 then some (ringSv l0 a1) else none
set_option maxHeartbeats 2000000 in
set_option maxRecDepth 100000 in
theorem impl_RingServer.calls (A0 : Option Addr) (c0 : Nat) (l0 : List S31) (a1 : ByteArray) (r1 : Int) (r2 : Bool) (w : World) (hr0 : Kd.C k31 w A0 l0.length l0) (hc0 : l0.length ≤ c0) (h : impl_RingServer.f l0 a1 = some (r1, r2)) :
    Calls Tryd.prog 9 #[.slice A0 l0.length c0, .string a1] w fun e w' => e = .returned (.tuple #[.int .i64 r1, .bool r2]) ∧ Below w.heap.size w w' := by
  unfold impl_RingServer.f at h
  split at h
  rotate_left
  · cases h
  rename_i hk
  have h := Option.some.inj h
  unfold ringSv at h
  have HR := Aside0.mk hr0
  have HK := Aside0.mk hk
  clear hr0 hk
  have hm := Kd.C_max HR.out
  have hu31 := Tryd.underlying31
  have e18 : ∀ args w, (callFunc 18 args).run Tryd.prog w = .ok (.enter 18 args) w := enters_of Tryd.func18 (by kernel_rfl) rfl
  have e28 : ∀ args w, (callFunc 28 args).run Tryd.prog w = .ok (.enter 28 args) w := enters_of Tryd.func28 (by kernel_rfl) rfl
  have e31 : ∀ args w, (callFunc 31 args).run Tryd.prog w = .ok (.enter 31 args) w := enters_of Tryd.func31 (by kernel_rfl) rfl
  have HB0 := Aside0.mk (Below.refl w.heap.size w)
  by_cases n0 : l0.length = 0
  · rw [if_pos (.inl n0)] at h
    cases h
    have e0 : ((l0.length : Int) == 0) = true := beq_iff_eq.2 (by omega)
    clear n0
    go_enter Tryd.func9, Tryd.ntmps9
    go_wp2
    go_ret2
    exact ⟨rfl, HB0.out⟩
  have e0 : ((l0.length : Int) == 0) = false := beq_eq_false_iff_ne.2 (by omega)
  by_cases n96 : 96 < l0.length
  · rw [if_pos (.inr n96)] at h
    cases h
    have e1 : decide ((l0.length : Int) > 96) = true := decide_eq_true (by omega)
    clear n0 n96
    go_enter Tryd.func9, Tryd.ntmps9
    go_wp2
    go_ret2
    exact ⟨rfl, HB0.out⟩
  have e1 : decide ((l0.length : Int) > 96) = false := decide_eq_false (by omega)
  rw [if_neg (by omega)] at h
  have N0 := Aside0.mk n0
  have N96 := Aside0.mk n96
  clear n0 n96
  by_cases dn : dnB l0 (l0.length - 1) = true
  rotate_left
  · rw [if_neg dn] at h
    cases h
    have DN := Aside0.mk (Bool.eq_false_iff.2 dn)
    clear dn
    go_enter Tryd.func9, Tryd.ntmps9
    go_wp2_with (go_at_call 26; refine (rs26 A0 c0 l0 (by have := N0.out; omega) false DN.out w HR.out).mono ?_; rintro e w1 ⟨rfl, hb⟩; have HB1 := Aside0.mk hb; clear hb)
    go_ret2
    exact ⟨rfl, HB1.out⟩
  rw [if_pos dn] at h
  have DN := Aside0.mk dn
  clear dn
  obtain ⟨ba, hba⟩ := allO_ok l0
  cases ba with
  | false =>
    rw [hba, if_neg (by simp)] at h
    cases h
    have AL := Aside0.mk hba
    clear hba
    go_enter Tryd.func9, Tryd.ntmps9
    go_wp2_with (first | (go_at_call 26; refine (rs26 A0 c0 l0 (by have := N0.out; omega) true DN.out w HR.out).mono ?_; rintro e w1 ⟨rfl, hb⟩; have HB1 := Aside0.mk hb; clear hb) | (go_at_call 27; refine (areAll_g27.all 28 okSv okSv_pred e28 A0 c0 l0 false w1 (Kd.C_below HR.out HB1.out) AL.out).mono ?_; rintro e w2 ⟨rfl, hb⟩; have HB2 := Aside0.mk (below_then HB1.out HB1.out.size hb); clear hb))
    go_ret2
    exact ⟨rfl, HB2.out⟩
  | true =>
    rw [hba, if_pos rfl] at h
    have AL := Aside0.mk hba
    clear hba
    obtain ⟨f, hf⟩ : ∃ f, fstH (hashT a1) l0 0 = f := ⟨_, rfl⟩
    have hfi := fstH_in (hashT a1) l0 0
    rw [show (((0 : Nat)) : Int) = 0 from rfl, hf] at hfi
    obtain ⟨m, hmx⟩ : ∃ m : Nat, max f 0 = (m : Int) := ⟨(max f 0).toNat, by omega⟩
    have hml : m < l0.length := by have := N0.out; omega
    rw [hf, hmx, Int.toNat_natCast] at h
    obtain ⟨rfl, rfl⟩ := Prod.mk.inj h
    clear h
    have p1 : (0 : Int) ≤ (m : Int) := by omega
    have q1 : (m : Int) < (l0.length : Int) := by omega
    obtain ⟨ad, ea, hx0, hx1⟩ := at_T31 HR.out (m : Int) p1 q1
    cases ea
    simp only [Int.toNat_natCast] at hx0 hx1
    rw [show rd_T31 l0 (m : Int) = l0.getD m z31 from rfl] at hx0 hx1
    have HX1 := Aside0.mk hx1
    clear hx0 hx1
    generalize l0.getD m z31 = y at HX1 ⊢
    have HML := Aside0.mk hml
    clear hml
    have hfm : (f = -1 ∧ m = 0) ∨ f = (m : Int) := by rcases hfi with e | e <;> omega
    clear hfi
    rcases hfm with ⟨rfl, rfl⟩ | rfl
    · have HF := Aside0.mk hf
      have HX2 := Aside0.mk (show w.cell? ⟨ad.block, ad.off + 1, none⟩ = some (.int .i64 y.f1) from by have := HX1.out; rw [Nat.zero_mul, Addr.add_zero'] at this; exact this)
      clear hf HX1 hmx p1 q1
      have HX1 := HX2
      clear HX2
      have q1 : (0 : Int) < (l0.length : Int) := by have := HML.out; omega
      go_enter Tryd.func9, Tryd.ntmps9
      go_wp2_with (first
        | (go_at_call 26; refine (rs26 (some ad) c0 l0 (by have := N0.out; omega) true DN.out w HR.out).mono ?_; rintro e w1 ⟨rfl, hb⟩; have HB1 := Aside0.mk hb; clear hb)
        | (go_at_call 27; refine (areAll_g27.all 28 okSv okSv_pred e28 (some ad) c0 l0 true w1 (Kd.C_below HR.out HB1.out) AL.out).mono ?_; rintro e w2 ⟨rfl, hb⟩; have HB2 := Aside0.mk (below_then HB1.out HB1.out.size hb); clear hb)
        | (go_at_call 15; refine (hashT_calls a1 HK.out w2).mono ?_; rintro e w3 ⟨rfl, md, rfl⟩; obtain ⟨hz1, hz2, hc4, hb4⟩ := rsBox w w2 md (hashT a1) HB2.out; have HC4 := Aside0.mk hc4; have HB4 := Aside0.mk hb4; clear hc4 hb4)
        | (go_at_call 30; go_loud (have h30 := rs30 (some ad) c0 l0 (hashT a1) w2.heap.size _ (Kd.C_below HR.out HB4.out) (by simp) HC4.out; rw [HF.out] at h30; refine h30.mono ?_; rintro e w5 ⟨rfl, hb⟩; have HB5 := Aside0.mk (below_then HB4.out HB4.out.size hb); have hx1 := (HB5.out.cell (World.block_lt_of_cell? w _ HX1.out)).trans HX1.out; clear hb)))
      go_ret2
      exact ⟨rfl, HB5.out⟩
    · have HF := Aside0.mk hf
      clear hf hmx
      have p3 : ¬ ((m : Int) < 0) := by omega
      go_enter Tryd.func9, Tryd.ntmps9
      go_wp2_with (first
        | (go_at_call 26; refine (rs26 (some ad) c0 l0 (by have := N0.out; omega) true DN.out w HR.out).mono ?_; rintro e w1 ⟨rfl, hb⟩; have HB1 := Aside0.mk hb; clear hb)
        | (go_at_call 27; refine (areAll_g27.all 28 okSv okSv_pred e28 (some ad) c0 l0 true w1 (Kd.C_below HR.out HB1.out) AL.out).mono ?_; rintro e w2 ⟨rfl, hb⟩; have HB2 := Aside0.mk (below_then HB1.out HB1.out.size hb); clear hb)
        | (go_at_call 15; refine (hashT_calls a1 HK.out w2).mono ?_; rintro e w3 ⟨rfl, md, rfl⟩; obtain ⟨hz1, hz2, hc4, hb4⟩ := rsBox w w2 md (hashT a1) HB2.out; have HC4 := Aside0.mk hc4; have HB4 := Aside0.mk hb4; clear hc4 hb4)
        | (go_at_call 30; go_loud (have h30 := rs30 (some ad) c0 l0 (hashT a1) w2.heap.size _ (Kd.C_below HR.out HB4.out) (by simp) HC4.out; rw [HF.out] at h30; refine h30.mono ?_; rintro e w5 ⟨rfl, hb⟩; have HB5 := Aside0.mk (below_then HB4.out HB4.out.size hb); have hx1 := (HB5.out.cell (World.block_lt_of_cell? w _ HX1.out)).trans HX1.out; clear hb)))
      go_ret2
      exact ⟨rfl, HB5.out⟩
end

end Go.Proofs.YtapnfghkfjkinaaDoor.PFnRing
