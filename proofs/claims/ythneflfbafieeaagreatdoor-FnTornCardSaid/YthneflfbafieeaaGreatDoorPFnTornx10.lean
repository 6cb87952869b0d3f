-- written by a program of this session (wip/tool)
import Derived.Test.YthneflfbafieeaaGreatDoorPFnTornx0
import Derived.Test.YthneflfbafieeaaGreatDoorPFnTornx2
import Derived.Test.YthneflfbafieeaaGreatDoorPFnTornx3
import Derived.Test.YthneflfbafieeaaGreatDoorPFnTornx7
import Derived.Test.YthneflfbafieeaaGreatDoorPFnTornx9
import Derived.Test.YthneflfbafieeaaGreatDoorVOwn0
import Derived.Test.YthneflfbafieeaaGreatDoorVOwnOpen
import Derived.WalkKit
import Derived.BigCall
import Derived.Test.YthneflfbafieeaaGreatDoorOwnTr
import Derived.Test.YthneflfbafieeaaGreatDoorVOwnShort
import Derived.Test.YthneflfbafieeaaGreatDoorOwnSq
namespace Go.Proofs.YthneflfbafieeaaGreatDoor.PFnTorn
open Go.RowKit Go.Proofs.YthneflfbafieeaaGreatDoorW.PrintWords Go.Proofs.YthneflfbafieeaaGreatDoorW.PrintLast Go.Proofs.YthneflfbafieeaaGreatDoorW.PrintMore Go.Shelf Go.Proofs.YthneflfbafieeaaGreatDoorOwn
attribute [local go_sem] max2_int min2_int max_two min_two max_three min_three max_four min_four   -- for this text's walks alone
set_option linter.unusedVariables false
set_option linter.unusedSimpArgs false

/-! ### spec_TakeRequest: function 6 -/
def spec_TakeRequest.j0 : Nat → ByteArray → List ByteArray → Int → ByteArray → ByteArray → Bool → Option (ByteArray × ByteArray × (List (S75)) × ByteArray × Int × Int)
 | 0, _, _, _, _, _, _ => none
 | k + 1, x0, x5, x6, x8, x11, x62 => if x62 = true then (some ((⟨#[]⟩ : ByteArray), (⟨#[]⟩ : ByteArray), ([] : List (S75)), (⟨#[]⟩ : ByteArray), 0, 2)) else (if 1 ≤ (x5.length : Int) then ((spec_l4Rest.f k x0 (x5.drop 1) x6).bind fun bt188 => (if bt188.2.2.2 = 0 then ((spec_GoodRequest.f k x8 x11 bt188.1 bt188.2.1).bind fun t195 => (if t195 = true then (some (x8, x11, bt188.1, bt188.2.1, bt188.2.2.1, 0)) else (some ((⟨#[]⟩ : ByteArray), (⟨#[]⟩ : ByteArray), ([] : List (S75)), (⟨#[]⟩ : ByteArray), 0, 5)))) else (some ((⟨#[]⟩ : ByteArray), (⟨#[]⟩ : ByteArray), ([] : List (S75)), (⟨#[]⟩ : ByteArray), 0, bt188.2.2.2)))) else (none))
def spec_TakeRequest.f (k : Nat) (a0 : ByteArray) : Option (ByteArray × ByteArray × (List (S75)) × ByteArray × Int × Int) := (spec_l4Lines.f k a0).bind fun bt170 => (if bt170.2.2 = 0 then (if 0 < (bt170.1.length : Int) then ((spec_l1Cut.f k (rdOf ByteArray.empty bt170.1 0) 32).bind fun bt176 => ((spec_l1Cut.f k bt176.2.1 32).bind fun bt179 => (if bt176.2.2 = true then (if bt179.2.2 = true then (if bt179.2.1.toList = ([72, 84, 84, 80, 47, 49, 46, 49] : List UInt8) then ((spec_l4Method.f k bt176.1).bind fun t182 => (if t182 = true then ((spec_l4Target.f k bt179.1).bind fun t183 => (spec_TakeRequest.j0 k a0 bt170.1 bt170.2.1 bt176.1 bt179.1 (!t183))) else (spec_TakeRequest.j0 k a0 bt170.1 bt170.2.1 bt176.1 bt179.1 true))) else (spec_TakeRequest.j0 k a0 bt170.1 bt170.2.1 bt176.1 bt179.1 true)) else (spec_TakeRequest.j0 k a0 bt170.1 bt170.2.1 bt176.1 bt179.1 true)) else (spec_TakeRequest.j0 k a0 bt170.1 bt170.2.1 bt176.1 bt179.1 true)))) else (none)) else (some ((⟨#[]⟩ : ByteArray), (⟨#[]⟩ : ByteArray), ([] : List (S75)), (⟨#[]⟩ : ByteArray), 0, bt170.2.2)))
theorem spec_TakeRequest.mono_l : ∀ k, (∀ y0 y1 y2 y3 y4 y5, LeO (spec_TakeRequest.j0 k y0 y1 y2 y3 y4 y5) (spec_TakeRequest.j0 (k + 1) y0 y1 y2 y3 y4 y5))
 | 0 => fun _ _ _ _ _ _ r h => by simp [spec_TakeRequest.j0] at h
 | k + 1 => by
  have ih0 := spec_TakeRequest.mono_l k
  ·intro y0 y1 y2 y3 y4 y5
   unfold spec_TakeRequest.j0
   repeat' with_reducible first | exact ih0 _ _ _ _ _ _ | exact spec_GoodRequest.mono _ _ _ _ _ | exact spec_l1Cut.mono _ _ _ | exact spec_l4Lines.mono _ _ | exact spec_l4Method.mono _ _ | exact spec_l4Rest.mono _ _ _ _ | exact spec_l4Target.mono _ _ | exact LeO.refl _ | exact LeO.none _ | refine LeO.ite ?_ ?_ | refine LeO.bind ?_ (fun _ => ?_)
theorem spec_TakeRequest.mono : ∀ a0 k, LeO (spec_TakeRequest.f k a0) (spec_TakeRequest.f (k + 1) a0) := by
 intro a0 k
 have ih0 := spec_TakeRequest.mono_l k
 unfold spec_TakeRequest.f
 repeat' with_reducible first | exact ih0 _ _ _ _ _ _ | exact spec_GoodRequest.mono _ _ _ _ _ | exact spec_l1Cut.mono _ _ _ | exact spec_l4Lines.mono _ _ | exact spec_l4Method.mono _ _ | exact spec_l4Rest.mono _ _ _ _ | exact spec_l4Target.mono _ _ | exact LeO.refl _ | exact LeO.none _ | refine LeO.ite ?_ ?_ | refine LeO.bind ?_ (fun _ => ?_)
set_option maxHeartbeats 8000000 in
set_option maxRecDepth 100000 in
theorem spec_TakeRequest.calls (k : Nat) (a0 : ByteArray) (r1 : ByteArray) (r2 : ByteArray) (r3 : List (S75)) (r4 : ByteArray) (r5 : Int) (r6 : Int) (w : World) (h : spec_TakeRequest.f k a0 = some (r1, r2, r3, r4, r5, r6)) :
  Calls Tryz.prog 6 #[.string a0] w fun e w' => ∃ v2_ : Value, e = .returned (.tuple #[.agg #[.string r1, .string r2, v2_, .string r4], .int .i64 r5, .int .i64 r6]) ∧ Kd.R k75 75 w' w.heap.size (fun _ => True) v2_ r3 ∧ Below w.heap.size w w' := by
 have hu24 := Tryz.underlying24
 have HB := ak (Below.refl w.heap.size w)
 have H : ((spec_l4Lines.f k a0).bind fun bt170 => (if bt170.2.2 = 0 then (if 0 < (bt170.1.length : Int) then ((spec_l1Cut.f k (rdOf ByteArray.empty bt170.1 0) 32).bind fun bt176 => ((spec_l1Cut.f k bt176.2.1 32).bind fun bt179 => (if bt176.2.2 = true then (if bt179.2.2 = true then (if bt179.2.1.toList = ([72, 84, 84, 80, 47, 49, 46, 49] : List UInt8) then ((spec_l4Method.f k bt176.1).bind fun t182 => (if t182 = true then ((spec_l4Target.f k bt179.1).bind fun t183 => (spec_TakeRequest.j0 k a0 bt170.1 bt170.2.1 bt176.1 bt179.1 (!t183))) else (spec_TakeRequest.j0 k a0 bt170.1 bt170.2.1 bt176.1 bt179.1 true))) else (spec_TakeRequest.j0 k a0 bt170.1 bt170.2.1 bt176.1 bt179.1 true)) else (spec_TakeRequest.j0 k a0 bt170.1 bt170.2.1 bt176.1 bt179.1 true)) else (spec_TakeRequest.j0 k a0 bt170.1 bt170.2.1 bt176.1 bt179.1 true)))) else (none)) else (some ((⟨#[]⟩ : ByteArray), (⟨#[]⟩ : ByteArray), ([] : List (S75)), (⟨#[]⟩ : ByteArray), 0, bt170.2.2)))) = some (r1, r2, r3, r4, r5, r6) := h
 clear h
 replace H := bs H
 obtain ⟨⟨t170, t171, t172⟩, A2, H⟩ := H
 try dsimp only at H
 by_cases c3 : t172 = 0
 ·rw [if_pos c3] at H
  have c3b0 : (t172 == 0) = true := beq_iff_eq.mpr c3
  have c3b1 : (t172 != 0) = false := bne_eq_false_iff_eq.mpr c3
  clear c3
  by_cases c4 : 0 < (t170.length : Int)
  ·rw [if_pos c4] at H
   have c4b0 : decide (0 < (t170.length : Int)) = true := decide_eq_true c4
   have c4b1 : decide (0 < t170.length) = true := decide_eq_true (by omega)
   clear c4
   replace H := bs H
   obtain ⟨⟨t176, t177, t178⟩, A5, H⟩ := H
   try dsimp only at H
   replace H := bs H
   obtain ⟨⟨t179, t180, t181⟩, A6, H⟩ := H
   try dsimp only at H
   have HC7 := ak H
   clear H
   go_enter Tryz.func6, Tryz.ntmps6
   go_upto_region 6 with (first | ((with_reducible refine gd 2 ?_); refine bE 2 #[.string (⟨#[]⟩ : ByteArray), .string (⟨#[]⟩ : ByteArray), .slice none 0 0, .string (⟨#[]⟩ : ByteArray)] 24 ?_; intro gb169 hg w8 hbox hb; have BK169 := ak hbox; have GW169 := gs hg (bl HB.out); have GE169 := gs hg (bl HB.out); replace HB := ak (below_step (bl HB.out) hb); clear hb hbox hg) | ((with_reducible refine gc 24 ?_); refine gL 24 Tryz.func24 (some 21) #[.string a0] ?_; (with_reducible refine (spec_l4Lines.calls k a0 t170 t171 t172 _ A2.out).mono ?_); rintro e w9 ⟨v173, rfl, ho0, hb⟩; refine ⟨_, rfl, ?_⟩; have HO174 := ak (Kd.R_lower ho0 (below_size (bl1 HB.out GE169.out))); replace BK169 := ak (blk_below (bk BK169.out) hb); replace HB := ak (below_step (bl1 HB.out GE169.out) hb); clear hb ho0; obtain ⟨Ao10, co10, eo10⟩ := Kd.R_slice HO174.out; subst eo10; have p175 : 0 ≤ (0 : Int) := (by omega); have q175 : 0 < (t170.length : Int) := od; obtain ⟨ad175, e175, hx175_0⟩ := Kd.at_string (Kd.R_reads' HO174.out).2.2 0 p175 q175; cases e175; have qi175 : (0 < t170.length) = True := eq_true (by omega); (try rw [show ((0 : Int)).toNat = 0 from rfl] at hx175_0); (try rw [Addr.add_zero'] at hx175_0); replace p175 := eq_true p175; replace q175 := eq_true q175) | ((with_reducible refine gc 25 ?_); refine gL 25 Tryz.func25 (some 33) #[.string (rdOf ByteArray.empty t170 0), .int .u8 32] ?_; (with_reducible refine (spec_l1Cut.calls k (rdOf ByteArray.empty t170 0) 32 t176 t177 t178 _ A5.out).mono ?_); rintro e w' ⟨rfl, ⟨nd, rfl⟩⟩; refine ⟨_, rfl, ?_⟩) | ((with_reducible refine gc 25 ?_); refine gL 25 Tryz.func25 (some 39) #[.string t177, .int .u8 32] ?_; (with_reducible refine (spec_l1Cut.calls k t177 32 t179 t180 t181 _ A6.out).mono ?_); rintro e w' ⟨rfl, ⟨nd, rfl⟩⟩; refine ⟨_, rfl, ?_⟩))
   (try simp only [Act.put, List.setIfInBounds_toArray, List.set_cons_zero, List.set_cons_succ])
   go_cut [62] (fun v62 wc => ∃ (kq : Nat) (x62_6 : Bool), v62 = .bool x62_6 ∧ Aside0 (spec_TakeRequest.j0 kq a0 t170 t171 t176 t179 x62_6 = some (r1, r2, r3, r4, r5, r6)) ∧ Aside0 (kq ≤ k) ∧ Aside0 (Kd.R Kd.string 9 wc w.heap.size (fun _ => True) (.slice (some ad175) t170.length co10) t170) ∧ Aside0 (wc.heap[gb169]? = some (.cells #[.string (⟨#[]⟩ : ByteArray), .string (⟨#[]⟩ : ByteArray), (.slice none 0 0), .string (⟨#[]⟩ : ByteArray)] 24 (0, 0))) ∧ Aside0 (Below w.heap.size w wc))
   case first =>
    have H := HC7.out
    clear HC7
    by_cases c11 : t178 = true
    ·subst c11
     rw [if_pos rfl] at H
     by_cases c12 : t181 = true
     ·subst c12
      rw [if_pos rfl] at H
      by_cases c13 : t180.toList = ([72, 84, 84, 80, 47, 49, 46, 49] : List UInt8)
      ·rw [if_pos c13] at H
       have c13b0 : (t180.toList == ([72, 84, 84, 80, 47, 49, 46, 49] : List UInt8)) = true := beq_iff_eq.mpr c13
       have c13b1 : (t180.toList != ([72, 84, 84, 80, 47, 49, 46, 49] : List UInt8)) = false := bne_eq_false_iff_eq.mpr c13
       clear c13
       (first | rw [c13b0] | (simp only [i64_w, i32_w]; rw [c13b0]) | skip)
       replace H := bs H
       obtain ⟨t182, A14, H⟩ := H
       try dsimp only at H
       by_cases c15 : t182 = true
       ·subst c15
        rw [if_pos rfl] at H
        replace H := bs H
        obtain ⟨t183, A16, H⟩ := H
        try dsimp only at H
        have H' := ak H
        clear H
        go_wp2_with (first | (go_at_call 26; (with_reducible refine (spec_l4Method.calls k t176 true _ A14.out).mono ?_); rintro e w' ⟨rfl, ⟨nd, rfl⟩⟩) | (go_at_call 27; (with_reducible refine (spec_l4Target.calls k t179 t183 _ A16.out).mono ?_); rintro e w' ⟨rfl, ⟨nd, rfl⟩⟩))
        go_meet
        case rel => exact ⟨_, (!t183), (by first | rfl | (simp; done) | (simp [*]; done)), H', ⟨by first | omega | exact Nat.le_refl _⟩, ⟨kr HO174.out⟩, ⟨bk BK169.out⟩, ⟨bl1 HB.out GE169.out⟩⟩
       ·replace c15 := Bool.eq_false_iff.mpr c15
        subst c15
        rw [if_neg ff] at H
        have H' := ak H
        clear H
        go_wp2_with (first | (go_at_call 26; (with_reducible refine (spec_l4Method.calls k t176 false _ A14.out).mono ?_); rintro e w' ⟨rfl, ⟨nd, rfl⟩⟩))
        go_meet
        case rel => exact ⟨_, (true), (by first | rfl | (simp; done) | (simp [*]; done)), H', ⟨by first | omega | exact Nat.le_refl _⟩, ⟨kr HO174.out⟩, ⟨bk BK169.out⟩, ⟨bl1 HB.out GE169.out⟩⟩
      ·rw [if_neg c13] at H
       have c13b0 : (t180.toList == ([72, 84, 84, 80, 47, 49, 46, 49] : List UInt8)) = false := beq_eq_false_iff_ne.mpr c13
       have c13b1 : (t180.toList != ([72, 84, 84, 80, 47, 49, 46, 49] : List UInt8)) = true := bne_iff_ne.mpr c13
       (first | rw [c13b0] | (simp only [i64_w, i32_w]; rw [c13b0]) | skip)
       have H' := ak H
       clear H
       go_wp2
       go_meet
       case rel => exact ⟨_, (true), (by first | rfl | (simp; done) | (simp [*]; done)), H', ⟨by first | omega | exact Nat.le_refl _⟩, ⟨kr HO174.out⟩, ⟨bk BK169.out⟩, ⟨bl1 HB.out GE169.out⟩⟩
     ·replace c12 := Bool.eq_false_iff.mpr c12
      subst c12
      rw [if_neg ff] at H
      have H' := ak H
      clear H
      go_wp2
      go_meet
      case rel => exact ⟨_, (true), (by first | rfl | (simp; done) | (simp [*]; done)), H', ⟨by first | omega | exact Nat.le_refl _⟩, ⟨kr HO174.out⟩, ⟨bk BK169.out⟩, ⟨bl1 HB.out GE169.out⟩⟩
    ·replace c11 := Bool.eq_false_iff.mpr c11
     subst c11
     rw [if_neg ff] at H
     have H' := ak H
     clear H
     go_wp2
     go_meet
     case rel => exact ⟨_, (true), (by first | rfl | (simp; done) | (simp [*]; done)), H', ⟨by first | omega | exact Nat.le_refl _⟩, ⟨kr HO174.out⟩, ⟨bk BK169.out⟩, ⟨bl1 HB.out GE169.out⟩⟩
   case rest =>
    clear HC7
    try clear c1
    try clear p1
    try clear q1
    try clear hx1
    try clear qi1
    try clear c2
    try clear p2
    try clear c3
    try clear c3b0
    try clear c3b1
    try clear c4
    try clear c4b0
    try clear c4b1
    try clear c6
    try clear c11
    try clear c12
    try clear c13
    try clear c13b0
    try clear c13b1
    try clear c15
    try clear hx175_0
    try clear p175
    try clear q175
    obtain ⟨kq, x62_6, rfl, HA, HJ6, HO_5, BK169, HB⟩ := hcut
    cases kq with
    | zero => exact absurd HA.out (by simp [spec_TakeRequest.j0])
    | succ kj6 =>
     have H := HA.out
     clear HA
     simp only [spec_TakeRequest.j0] at H
     by_cases c17 : x62_6 = true
     ·subst c17
      rw [if_pos rfl] at H
      simp only [Option.some.injEq, Prod.mk.injEq] at H
      obtain ⟨rfl, rfl, rfl, rfl, rfl, rfl⟩ := H
      obtain ⟨hcz18_0, hcz18_1, hcz18_2, hcz18_3, hfz18_0, hfz18_1, hfz18_2, hfz18_3⟩ := b4 BK169.out
      go_wp2
      refine bodyPost_ret (results_ctt rfl _ _ gb169 24 #[.string (⟨#[]⟩ : ByteArray), .string (⟨#[]⟩ : ByteArray), .slice none 0 0, .string (⟨#[]⟩ : ByteArray)] (0, 0) _ rfl (bq BK169.out) Tryz.underlying24 rfl (by kernel_rfl)) rfl ?_
      exact ⟨_, by first | rfl | (simp [errW_none, errW_some] <;> rfl) | (simp [*, errW_none, errW_some] <;> rfl), by first | exact Kd.R_nil _ _ _ _ _ | exact Kd.N_nil _ _ _ _ _ | exact Kd.V_nil _ _ _ _ _ | exact Kd.Q_nil _ _ _ _ _ | exact Kd.S_nil _ _ _ _ _, bl1 HB.out GE169.out⟩
     ·replace c17 := Bool.eq_false_iff.mpr c17
      subst c17
      rw [if_neg ff] at H
      by_cases c19 : 1 ≤ (t170.length : Int)
      ·rw [if_pos c19] at H
       have c19b0 := eq_true c19
       have c19b1 : decide (1 ≤ (t170.length : Int)) = true := decide_eq_true c19
       clear c19
       obtain ⟨y184, hy184⟩ : ∃ y_ : List ByteArray, y_ = (t170.drop 1) := ⟨_, rfl⟩
       replace H : ((spec_l4Rest.f kj6 a0 y184 t171).bind fun bt188 => (if bt188.2.2.2 = 0 then ((spec_GoodRequest.f kj6 t176 t179 bt188.1 bt188.2.1).bind fun t195 => (if t195 = true then (some (t176, t179, bt188.1, bt188.2.1, bt188.2.2.1, 0)) else (some ((⟨#[]⟩ : ByteArray), (⟨#[]⟩ : ByteArray), ([] : List (S75)), (⟨#[]⟩ : ByteArray), 0, 5)))) else (some ((⟨#[]⟩ : ByteArray), (⟨#[]⟩ : ByteArray), ([] : List (S75)), (⟨#[]⟩ : ByteArray), 0, bt188.2.2.2)))) = some (r1, r2, r3, r4, r5, r6) := by first | (rw [hy184]; with_reducible exact H) | (have H2_ := (Option.bind_some _ _).symm.trans H; rw [hy184]; with_reducible exact H2_) | (have H2_ := (Option.bind_some _ _).symm.trans H; with_reducible exact H2_) | with_reducible exact H | (rw [hy184]; exact H) | exact H
       have Ny184 := ak hy184
       clear hy184
       replace H := bs H
       obtain ⟨⟨t188, t189, t190, t191⟩, A20, H⟩ := H
       try dsimp only at H
       by_cases c21 : t191 = 0
       ·rw [if_pos c21] at H
        have c21b0 : (t191 == 0) = true := beq_iff_eq.mpr c21
        have c21b1 : (t191 != 0) = false := bne_eq_false_iff_eq.mpr c21
        clear c21
        replace H := bs H
        obtain ⟨t195, A22, H⟩ := H
        try dsimp only at H
        by_cases c23 : t195 = true
        ·subst c23
         rw [if_pos rfl] at H
         simp only [Option.some.injEq, Prod.mk.injEq] at H
         obtain ⟨rfl, rfl, rfl, rfl, rfl, rfl⟩ := H
         have q24 : (1 : Int) ≤ ((t170.length : Int) : Int) := od
         obtain ⟨i024, hi024, _, hsz24, _⟩ := info_parts info9
         have hroom24 : t170.length ≤ co10 := (Kd.R_reads' HO_5.out).2.1
         have hC24 : Kd.C Kd.string _ (some ad175) t170.length t170 := (Kd.R_reads' HO_5.out).2.2
         have hcut24 := cut_from (P := Tryz.prog) 43 9 .i64 Tryz.underlying43 hi024 1 hsz24 (some ad175) t170.length co10 1 (by omega) q24
         have hr24 := Kd.C_drop (m := (1 : Int).toNat) (c := co10) hC24 (by omega) hroom24
         obtain ⟨A24, hA24⟩ : ∃ A1, A1 = (if co10 = (1 : Int).toNat then (some ad175) else ((some ad175) : Option Addr).map (·.add ((1 : Int).toNat * 1))) := ⟨_, rfl⟩
         obtain ⟨c24, hc24⟩ : ∃ c1, c1 = co10 - (1 : Int).toNat := ⟨_, rfl⟩
         have hy24 : y184.length = t170.length - (1 : Int).toNat := (by rw [Ny184.out, List.length_drop] <;> omega)
         rw [show (t170).drop (1 : Int).toNat = y184 from Ny184.out.symm] at hr24
         replace hr24 : Kd.C Kd.string _ A24 y184.length y184 := (by rw [hA24]; exact hr24)
         rw [← hy24, ← hA24, ← hc24] at hcut24
         have HR187 := ak hr24
         have HC187 := ak (show y184.length ≤ c24 from by rw [hy24, hc24]; exact Nat.sub_le_sub_right hroom24 _)
         clear hr24 hC24 hroom24 hi024 hsz24 hc24
         have KY24 := ak hy24
         have KA24 := ak hA24
         clear hy24 hA24
         have KL24 := ak (show 1 ≤ t170.length from by omega)
         replace q24 := eq_true q24
         go_wp2_with (first | ((with_reducible refine gc 28 ?_); refine gL 28 Tryz.func28 (some 69) #[.string a0, .slice A24 y184.length c24, .int .i64 t171] ?_; (with_reducible refine (spec_l4Rest.calls kj6 a0 _ _ y184 t171 t188 t189 t190 t191 _ ?side1 ?side2 A20.out).mono ?_); (case side1 => repeat (first | exact (by repeat (first | (with_reducible exact HR187.out) | (with_reducible refine Kd.C_alloc ?_ _) | (with_reducible refine Kd.C_drewN ?_ _) | (with_reducible refine Kd.C_drew ?_) | exact HR187.out)) | (with_reducible refine Kd.C_alloc ?_ _) | (with_reducible refine Kd.C_drewN ?_ _) | (with_reducible refine Kd.C_drew ?_))); (case side2 => exact HC187.out); rintro e w25 ⟨v192, rfl, ho0, hb⟩; refine ⟨_, rfl, ?_⟩; replace HO_5 := ak (Kd.R_below (kr HO_5.out) hb); have HO193 := ak (Kd.R_lower ho0 (below_size (bl1 HB.out GE169.out))); replace BK169 := ak (blk_below (bk BK169.out) hb); replace HR187 := ak (Kd.C_below (by repeat (first | (with_reducible exact HR187.out) | (with_reducible refine Kd.C_alloc ?_ _) | (with_reducible refine Kd.C_drewN ?_ _) | (with_reducible refine Kd.C_drew ?_) | exact HR187.out)) hb); replace HB := ak (below_step (bl1 HB.out GE169.out) hb); clear hb ho0; obtain ⟨Ao26, co26, eo26⟩ := Kd.R_slice HO193.out; subst eo26) | ((with_reducible refine gd 18 ?_); refine bE 18 #[.string (⟨#[]⟩ : ByteArray), .string (⟨#[]⟩ : ByteArray), .slice none 0 0, .string (⟨#[]⟩ : ByteArray)] 24 ?_; intro gb194 hg w27 hbox hb; replace HO_5 := ak (Kd.R_below (kr HO_5.out) hb); replace HO193 := ak (Kd.R_below (kr HO193.out) hb); replace HR187 := ak (Kd.C_below (by repeat (first | (with_reducible exact HR187.out) | (with_reducible refine Kd.C_alloc ?_ _) | (with_reducible refine Kd.C_drewN ?_ _) | (with_reducible refine Kd.C_drew ?_) | exact HR187.out)) hb); have BK194 := ak hbox; have GW194 := gs hg (bl1 HB.out GE169.out); have GE194 := gs hg (bl1 HB.out GE169.out); replace HB := ak (below_step (bl1 HB.out GE169.out) hb); have NB169_194 := nl hg BK169.out; have NB194_169 := ng hg BK169.out; replace BK169 := ak (blk_below (bk BK169.out) hb); clear hb hbox hg; have hnb28 := NB194_169.out; have hnc28 := NB169_194.out; obtain ⟨hcz29_0, hcz29_1, hcz29_2, hcz29_3, hfz29_0, hfz29_1, hfz29_2, hfz29_3⟩ := b4 BK194.out) | ((with_reducible refine gc 29 ?_); refine gL 29 Tryz.func29 (some 84) #[.agg #[.string t176, .string t179, .slice Ao26 t188.length co26, .string t189]] ?_; (with_reducible refine (spec_GoodRequest.calls kj6 t176 t179 _ _ t188 t189 true _ ?side1 ?side2 A22.out).mono ?_); (case side1 => refine (Kd.R_reads' (e := 75) (base := w.heap.size) (ok := fun k_ => True) (n := t188.length) (c := co26) ?_).2.2; exact (by (with_reducible repeat (first | apply Kd.R_alloc | apply Kd.R_drewN | apply Kd.R_drew)); exact (Kd.R_mono (Kd.R_far (p := ⟨gb194, 3, none⟩) (Kd.R_far (p := ⟨gb194, 2, none⟩) (Kd.R_far (p := ⟨gb194, 1, none⟩) (Kd.R_far (p := ⟨gb194, 0, none⟩) (Kd.R_types HO193.out BK194.out (by decide)) (fun _ hk => hk.2) (.string t176)) (fun _ hk => hk.2) (.string t179)) (fun _ hk => hk.2) (.slice Ao26 t188.length co26)) (fun _ hk => hk.2) (.string t189)) (fun _ h_ => h_.1)))); (case side2 => exact (Kd.R_reads' HO193.out).2.1); rintro e w30 ⟨rfl, hb⟩; refine ⟨_, rfl, ?_⟩; replace HO_5 := ak (Kd.R_below (by (with_reducible repeat (first | apply Kd.R_alloc | apply Kd.R_drewN | apply Kd.R_drew)); exact (Kd.R_mono (Kd.R_far (p := ⟨gb194, 3, none⟩) (Kd.R_far (p := ⟨gb194, 2, none⟩) (Kd.R_far (p := ⟨gb194, 1, none⟩) (Kd.R_far (p := ⟨gb194, 0, none⟩) (Kd.R_types HO_5.out BK194.out (by decide)) (fun _ hk => hk.2) (.string t176)) (fun _ hk => hk.2) (.string t179)) (fun _ hk => hk.2) (.slice Ao26 t188.length co26)) (fun _ hk => hk.2) (.string t189)) (fun _ h_ => h_.1))) hb); replace HO193 := ak (Kd.R_below (by (with_reducible repeat (first | apply Kd.R_alloc | apply Kd.R_drewN | apply Kd.R_drew)); exact (Kd.R_mono (Kd.R_far (p := ⟨gb194, 3, none⟩) (Kd.R_far (p := ⟨gb194, 2, none⟩) (Kd.R_far (p := ⟨gb194, 1, none⟩) (Kd.R_far (p := ⟨gb194, 0, none⟩) (Kd.R_types HO193.out BK194.out (by decide)) (fun _ hk => hk.2) (.string t176)) (fun _ hk => hk.2) (.string t179)) (fun _ hk => hk.2) (.slice Ao26 t188.length co26)) (fun _ hk => hk.2) (.string t189)) (fun _ h_ => h_.1))) hb); replace BK169 := ak (blk_below (g := gb169) (o := .cells #[.string (⟨#[]⟩ : ByteArray), .string (⟨#[]⟩ : ByteArray), .slice none 0 0, .string (⟨#[]⟩ : ByteArray)] 24 (0, 0)) (bq BK169.out) hb); replace BK194 := ak (blk_below (g := gb194) (o := .cells #[.string t176, .string t179, .slice Ao26 t188.length co26, .string t189] 24 (0, 0)) (bq BK194.out) hb); replace HB := ak (below_step (bl2 HB.out GE169.out GE194.out) hb); clear hb; obtain ⟨hcz31_0, hcz31_1, hcz31_2, hcz31_3, hfz31_0, hfz31_1, hfz31_2, hfz31_3⟩ := b4 BK194.out; obtain ⟨hcz32_0, hcz32_1, hcz32_2, hcz32_3, hfz32_0, hfz32_1, hfz32_2, hfz32_3⟩ := b4 BK169.out))
         refine bodyPost_ret (results_ctt rfl _ _ gb169 24 #[.string t176, .string t179, .slice Ao26 t188.length co26, .string t189] (0, 0) _ rfl (bq BK169.out) Tryz.underlying24 rfl (by kernel_rfl)) rfl ?_
         exact ⟨_, by first | rfl | (simp [errW_none, errW_some] <;> rfl) | (simp [*, errW_none, errW_some] <;> rfl), by (with_reducible repeat (first | apply Kd.R_alloc | apply Kd.R_drewN | apply Kd.R_drew)); exact Kd.R_mono (Kd.R_far (p := ⟨gb169, 3, none⟩) (Kd.R_far (p := ⟨gb169, 2, none⟩) (Kd.R_far (p := ⟨gb169, 1, none⟩) (Kd.R_far (p := ⟨gb169, 0, none⟩) (Kd.R_types HO193.out BK169.out (by decide)) (fun _ hk => hk.2) (.string t176)) (fun _ hk => hk.2) (.string t179)) (fun _ hk => hk.2) (.slice Ao26 t188.length co26)) (fun _ hk => hk.2) (.string t189)) (fun _ hk => trivial), bl2 HB.out GE169.out GE194.out⟩
        ·replace c23 := Bool.eq_false_iff.mpr c23
         subst c23
         rw [if_neg ff] at H
         simp only [Option.some.injEq, Prod.mk.injEq] at H
         obtain ⟨rfl, rfl, rfl, rfl, rfl, rfl⟩ := H
         have q33 : (1 : Int) ≤ ((t170.length : Int) : Int) := od
         obtain ⟨i033, hi033, _, hsz33, _⟩ := info_parts info9
         have hroom33 : t170.length ≤ co10 := (Kd.R_reads' HO_5.out).2.1
         have hC33 : Kd.C Kd.string _ (some ad175) t170.length t170 := (Kd.R_reads' HO_5.out).2.2
         have hcut33 := cut_from (P := Tryz.prog) 43 9 .i64 Tryz.underlying43 hi033 1 hsz33 (some ad175) t170.length co10 1 (by omega) q33
         have hr33 := Kd.C_drop (m := (1 : Int).toNat) (c := co10) hC33 (by omega) hroom33
         obtain ⟨A33, hA33⟩ : ∃ A1, A1 = (if co10 = (1 : Int).toNat then (some ad175) else ((some ad175) : Option Addr).map (·.add ((1 : Int).toNat * 1))) := ⟨_, rfl⟩
         obtain ⟨c33, hc33⟩ : ∃ c1, c1 = co10 - (1 : Int).toNat := ⟨_, rfl⟩
         have hy33 : y184.length = t170.length - (1 : Int).toNat := (by rw [Ny184.out, List.length_drop] <;> omega)
         rw [show (t170).drop (1 : Int).toNat = y184 from Ny184.out.symm] at hr33
         replace hr33 : Kd.C Kd.string _ A33 y184.length y184 := (by rw [hA33]; exact hr33)
         rw [← hy33, ← hA33, ← hc33] at hcut33
         have HR187 := ak hr33
         have HC187 := ak (show y184.length ≤ c33 from by rw [hy33, hc33]; exact Nat.sub_le_sub_right hroom33 _)
         clear hr33 hC33 hroom33 hi033 hsz33 hc33
         have KY33 := ak hy33
         have KA33 := ak hA33
         clear hy33 hA33
         have KL33 := ak (show 1 ≤ t170.length from by omega)
         replace q33 := eq_true q33
         go_wp2_with (first | ((with_reducible refine gc 28 ?_); refine gL 28 Tryz.func28 (some 69) #[.string a0, .slice A33 y184.length c33, .int .i64 t171] ?_; (with_reducible refine (spec_l4Rest.calls kj6 a0 _ _ y184 t171 t188 t189 t190 t191 _ ?side1 ?side2 A20.out).mono ?_); (case side1 => repeat (first | exact (by repeat (first | (with_reducible exact HR187.out) | (with_reducible refine Kd.C_alloc ?_ _) | (with_reducible refine Kd.C_drewN ?_ _) | (with_reducible refine Kd.C_drew ?_) | exact HR187.out)) | (with_reducible refine Kd.C_alloc ?_ _) | (with_reducible refine Kd.C_drewN ?_ _) | (with_reducible refine Kd.C_drew ?_))); (case side2 => exact HC187.out); rintro e w34 ⟨v192, rfl, ho0, hb⟩; refine ⟨_, rfl, ?_⟩; replace HO_5 := ak (Kd.R_below (kr HO_5.out) hb); have HO193 := ak (Kd.R_lower ho0 (below_size (bl1 HB.out GE169.out))); replace BK169 := ak (blk_below (bk BK169.out) hb); replace HR187 := ak (Kd.C_below (by repeat (first | (with_reducible exact HR187.out) | (with_reducible refine Kd.C_alloc ?_ _) | (with_reducible refine Kd.C_drewN ?_ _) | (with_reducible refine Kd.C_drew ?_) | exact HR187.out)) hb); replace HB := ak (below_step (bl1 HB.out GE169.out) hb); clear hb ho0; obtain ⟨Ao35, co35, eo35⟩ := Kd.R_slice HO193.out; subst eo35) | ((with_reducible refine gd 18 ?_); refine bE 18 #[.string (⟨#[]⟩ : ByteArray), .string (⟨#[]⟩ : ByteArray), .slice none 0 0, .string (⟨#[]⟩ : ByteArray)] 24 ?_; intro gb194 hg w36 hbox hb; replace HO_5 := ak (Kd.R_below (kr HO_5.out) hb); replace HO193 := ak (Kd.R_below (kr HO193.out) hb); replace HR187 := ak (Kd.C_below (by repeat (first | (with_reducible exact HR187.out) | (with_reducible refine Kd.C_alloc ?_ _) | (with_reducible refine Kd.C_drewN ?_ _) | (with_reducible refine Kd.C_drew ?_) | exact HR187.out)) hb); have BK194 := ak hbox; have GW194 := gs hg (bl1 HB.out GE169.out); have GE194 := gs hg (bl1 HB.out GE169.out); replace HB := ak (below_step (bl1 HB.out GE169.out) hb); have NB169_194 := nl hg BK169.out; have NB194_169 := ng hg BK169.out; replace BK169 := ak (blk_below (bk BK169.out) hb); clear hb hbox hg; have hnb37 := NB194_169.out; have hnc37 := NB169_194.out; obtain ⟨hcz38_0, hcz38_1, hcz38_2, hcz38_3, hfz38_0, hfz38_1, hfz38_2, hfz38_3⟩ := b4 BK194.out) | ((with_reducible refine gc 29 ?_); refine gL 29 Tryz.func29 (some 84) #[.agg #[.string t176, .string t179, .slice Ao35 t188.length co35, .string t189]] ?_; (with_reducible refine (spec_GoodRequest.calls kj6 t176 t179 _ _ t188 t189 false _ ?side1 ?side2 A22.out).mono ?_); (case side1 => refine (Kd.R_reads' (e := 75) (base := w.heap.size) (ok := fun k_ => True) (n := t188.length) (c := co35) ?_).2.2; exact (by (with_reducible repeat (first | apply Kd.R_alloc | apply Kd.R_drewN | apply Kd.R_drew)); exact (Kd.R_mono (Kd.R_far (p := ⟨gb194, 3, none⟩) (Kd.R_far (p := ⟨gb194, 2, none⟩) (Kd.R_far (p := ⟨gb194, 1, none⟩) (Kd.R_far (p := ⟨gb194, 0, none⟩) (Kd.R_types HO193.out BK194.out (by decide)) (fun _ hk => hk.2) (.string t176)) (fun _ hk => hk.2) (.string t179)) (fun _ hk => hk.2) (.slice Ao35 t188.length co35)) (fun _ hk => hk.2) (.string t189)) (fun _ h_ => h_.1)))); (case side2 => exact (Kd.R_reads' HO193.out).2.1); rintro e w39 ⟨rfl, hb⟩; refine ⟨_, rfl, ?_⟩; replace HO_5 := ak (Kd.R_below (by (with_reducible repeat (first | apply Kd.R_alloc | apply Kd.R_drewN | apply Kd.R_drew)); exact (Kd.R_mono (Kd.R_far (p := ⟨gb194, 3, none⟩) (Kd.R_far (p := ⟨gb194, 2, none⟩) (Kd.R_far (p := ⟨gb194, 1, none⟩) (Kd.R_far (p := ⟨gb194, 0, none⟩) (Kd.R_types HO_5.out BK194.out (by decide)) (fun _ hk => hk.2) (.string t176)) (fun _ hk => hk.2) (.string t179)) (fun _ hk => hk.2) (.slice Ao35 t188.length co35)) (fun _ hk => hk.2) (.string t189)) (fun _ h_ => h_.1))) hb); replace HO193 := ak (Kd.R_below (by (with_reducible repeat (first | apply Kd.R_alloc | apply Kd.R_drewN | apply Kd.R_drew)); exact (Kd.R_mono (Kd.R_far (p := ⟨gb194, 3, none⟩) (Kd.R_far (p := ⟨gb194, 2, none⟩) (Kd.R_far (p := ⟨gb194, 1, none⟩) (Kd.R_far (p := ⟨gb194, 0, none⟩) (Kd.R_types HO193.out BK194.out (by decide)) (fun _ hk => hk.2) (.string t176)) (fun _ hk => hk.2) (.string t179)) (fun _ hk => hk.2) (.slice Ao35 t188.length co35)) (fun _ hk => hk.2) (.string t189)) (fun _ h_ => h_.1))) hb); replace BK169 := ak (blk_below (g := gb169) (o := .cells #[.string (⟨#[]⟩ : ByteArray), .string (⟨#[]⟩ : ByteArray), .slice none 0 0, .string (⟨#[]⟩ : ByteArray)] 24 (0, 0)) (bq BK169.out) hb); replace BK194 := ak (blk_below (g := gb194) (o := .cells #[.string t176, .string t179, .slice Ao35 t188.length co35, .string t189] 24 (0, 0)) (bq BK194.out) hb); replace HB := ak (below_step (bl2 HB.out GE169.out GE194.out) hb); clear hb; obtain ⟨hcz40_0, hcz40_1, hcz40_2, hcz40_3, hfz40_0, hfz40_1, hfz40_2, hfz40_3⟩ := b4 BK169.out))
         refine bodyPost_ret (results_ctt rfl _ _ gb169 24 #[.string (⟨#[]⟩ : ByteArray), .string (⟨#[]⟩ : ByteArray), .slice none 0 0, .string (⟨#[]⟩ : ByteArray)] (0, 0) _ rfl (bq BK169.out) Tryz.underlying24 rfl (by kernel_rfl)) rfl ?_
         exact ⟨_, by first | rfl | (simp [errW_none, errW_some] <;> rfl) | (simp [*, errW_none, errW_some] <;> rfl), by first | exact Kd.R_nil _ _ _ _ _ | exact Kd.N_nil _ _ _ _ _ | exact Kd.V_nil _ _ _ _ _ | exact Kd.Q_nil _ _ _ _ _ | exact Kd.S_nil _ _ _ _ _, bl2 HB.out GE169.out GE194.out⟩
       ·rw [if_neg c21] at H
        have c21b0 : (t191 == 0) = false := beq_eq_false_iff_ne.mpr c21
        have c21b1 : (t191 != 0) = true := bne_iff_ne.mpr c21
        simp only [Option.some.injEq, Prod.mk.injEq] at H
        obtain ⟨rfl, rfl, rfl, rfl, rfl, rfl⟩ := H
        have q41 : (1 : Int) ≤ ((t170.length : Int) : Int) := od
        obtain ⟨i041, hi041, _, hsz41, _⟩ := info_parts info9
        have hroom41 : t170.length ≤ co10 := (Kd.R_reads' HO_5.out).2.1
        have hC41 : Kd.C Kd.string _ (some ad175) t170.length t170 := (Kd.R_reads' HO_5.out).2.2
        have hcut41 := cut_from (P := Tryz.prog) 43 9 .i64 Tryz.underlying43 hi041 1 hsz41 (some ad175) t170.length co10 1 (by omega) q41
        have hr41 := Kd.C_drop (m := (1 : Int).toNat) (c := co10) hC41 (by omega) hroom41
        obtain ⟨A41, hA41⟩ : ∃ A1, A1 = (if co10 = (1 : Int).toNat then (some ad175) else ((some ad175) : Option Addr).map (·.add ((1 : Int).toNat * 1))) := ⟨_, rfl⟩
        obtain ⟨c41, hc41⟩ : ∃ c1, c1 = co10 - (1 : Int).toNat := ⟨_, rfl⟩
        have hy41 : y184.length = t170.length - (1 : Int).toNat := (by rw [Ny184.out, List.length_drop] <;> omega)
        rw [show (t170).drop (1 : Int).toNat = y184 from Ny184.out.symm] at hr41
        replace hr41 : Kd.C Kd.string _ A41 y184.length y184 := (by rw [hA41]; exact hr41)
        rw [← hy41, ← hA41, ← hc41] at hcut41
        have HR187 := ak hr41
        have HC187 := ak (show y184.length ≤ c41 from by rw [hy41, hc41]; exact Nat.sub_le_sub_right hroom41 _)
        clear hr41 hC41 hroom41 hi041 hsz41 hc41
        have KY41 := ak hy41
        have KA41 := ak hA41
        clear hy41 hA41
        have KL41 := ak (show 1 ≤ t170.length from by omega)
        replace q41 := eq_true q41
        go_wp2_with (first | ((with_reducible refine gc 28 ?_); refine gL 28 Tryz.func28 (some 69) #[.string a0, .slice A41 y184.length c41, .int .i64 t171] ?_; (with_reducible refine (spec_l4Rest.calls kj6 a0 _ _ y184 t171 t188 t189 t190 t191 _ ?side1 ?side2 A20.out).mono ?_); (case side1 => repeat (first | exact (by repeat (first | (with_reducible exact HR187.out) | (with_reducible refine Kd.C_alloc ?_ _) | (with_reducible refine Kd.C_drewN ?_ _) | (with_reducible refine Kd.C_drew ?_) | exact HR187.out)) | (with_reducible refine Kd.C_alloc ?_ _) | (with_reducible refine Kd.C_drewN ?_ _) | (with_reducible refine Kd.C_drew ?_))); (case side2 => exact HC187.out); rintro e w42 ⟨v192, rfl, ho0, hb⟩; refine ⟨_, rfl, ?_⟩; replace HO_5 := ak (Kd.R_below (kr HO_5.out) hb); have HO193 := ak (Kd.R_lower ho0 (below_size (bl1 HB.out GE169.out))); replace BK169 := ak (blk_below (bk BK169.out) hb); replace HR187 := ak (Kd.C_below (by repeat (first | (with_reducible exact HR187.out) | (with_reducible refine Kd.C_alloc ?_ _) | (with_reducible refine Kd.C_drewN ?_ _) | (with_reducible refine Kd.C_drew ?_) | exact HR187.out)) hb); replace HB := ak (below_step (bl1 HB.out GE169.out) hb); clear hb ho0; obtain ⟨hcz43_0, hcz43_1, hcz43_2, hcz43_3, hfz43_0, hfz43_1, hfz43_2, hfz43_3⟩ := b4 BK169.out))
        refine bodyPost_ret (results_ctt rfl _ _ gb169 24 #[.string (⟨#[]⟩ : ByteArray), .string (⟨#[]⟩ : ByteArray), .slice none 0 0, .string (⟨#[]⟩ : ByteArray)] (0, 0) _ rfl (bq BK169.out) Tryz.underlying24 rfl (by kernel_rfl)) rfl ?_
        exact ⟨_, by first | rfl | (simp [errW_none, errW_some] <;> rfl) | (simp [*, errW_none, errW_some] <;> rfl), by first | exact Kd.R_nil _ _ _ _ _ | exact Kd.N_nil _ _ _ _ _ | exact Kd.V_nil _ _ _ _ _ | exact Kd.Q_nil _ _ _ _ _ | exact Kd.S_nil _ _ _ _ _, bl1 HB.out GE169.out⟩
      ·rw [if_neg c19] at H
       exact absurd H (by simp)
  ·rw [if_neg c4] at H
   exact absurd H (by simp)
 ·rw [if_neg c3] at H
  have c3b0 : (t172 == 0) = false := beq_eq_false_iff_ne.mpr c3
  have c3b1 : (t172 != 0) = true := bne_iff_ne.mpr c3
  simp only [Option.some.injEq, Prod.mk.injEq] at H
  obtain ⟨rfl, rfl, rfl, rfl, rfl, rfl⟩ := H
  go_enter Tryz.func6, Tryz.ntmps6
  go_wp2_with (first | ((with_reducible refine gd 2 ?_); refine bE 2 #[.string (⟨#[]⟩ : ByteArray), .string (⟨#[]⟩ : ByteArray), .slice none 0 0, .string (⟨#[]⟩ : ByteArray)] 24 ?_; intro gb169 hg w44 hbox hb; have BK169 := ak hbox; have GW169 := gs hg (bl HB.out); have GE169 := gs hg (bl HB.out); replace HB := ak (below_step (bl HB.out) hb); clear hb hbox hg) | ((with_reducible refine gc 24 ?_); refine gL 24 Tryz.func24 (some 21) #[.string a0] ?_; (with_reducible refine (spec_l4Lines.calls k a0 t170 t171 t172 _ A2.out).mono ?_); rintro e w45 ⟨v173, rfl, ho0, hb⟩; refine ⟨_, rfl, ?_⟩; have HO174 := ak (Kd.R_lower ho0 (below_size (bl1 HB.out GE169.out))); replace BK169 := ak (blk_below (bk BK169.out) hb); replace HB := ak (below_step (bl1 HB.out GE169.out) hb); clear hb ho0; obtain ⟨hcz46_0, hcz46_1, hcz46_2, hcz46_3, hfz46_0, hfz46_1, hfz46_2, hfz46_3⟩ := b4 BK169.out))
  refine bodyPost_ret (results_ctt rfl _ _ gb169 24 #[.string (⟨#[]⟩ : ByteArray), .string (⟨#[]⟩ : ByteArray), .slice none 0 0, .string (⟨#[]⟩ : ByteArray)] (0, 0) _ rfl (bq BK169.out) Tryz.underlying24 rfl (by kernel_rfl)) rfl ?_
  exact ⟨_, by first | rfl | (simp [errW_none, errW_some] <;> rfl) | (simp [*, errW_none, errW_some] <;> rfl), by first | exact Kd.R_nil _ _ _ _ _ | exact Kd.N_nil _ _ _ _ _ | exact Kd.V_nil _ _ _ _ _ | exact Kd.Q_nil _ _ _ _ _ | exact Kd.S_nil _ _ _ _ _, bl1 HB.out GE169.out⟩

-- NOT PRINTED: function 138 (bytealg_IndexByteString)

-- NOT PRINTED: function 119 (stringslite_IndexByte)

-- NOT PRINTED: function 120 (bytealg_IndexString)

-- NOT PRINTED: function 121 (bytealg_Cutover)

-- NOT PRINTED: function 139 (bytealg_hashStr_string)

-- NOT PRINTED: function 122 (bytealg_IndexRabinKarp_string)

-- NOT PRINTED: function 94 (stringslite_Index)

-- NOT PRINTED: function 65 (strings_Index)

-- NOT PRINTED: function 126 (utf8_RuneCountInString)

-- NOT PRINTED: function 149 (utf8_decodeRuneInStringSlow)

-- NOT PRINTED: function 127 (utf8_DecodeRuneInString)

-- NOT PRINTED: function 101 (strings_explode)

-- NOT PRINTED: function 128 (bytealg_CountString)

-- NOT PRINTED: function 102 (strings_Count)

-- NOT PRINTED: function 68 (strings_genSplit)

-- NOT PRINTED: function 32 (strings_Split)

/-! ### impl_headText: function 48 -/
def impl_headText.l0 : Nat → ByteArray → List (S75) → Int → Int → Option (ByteArray)
 | 0, _, _, _, _ => none
 | k + 1, x5, x10, x11, x12 => if x12 < x11 then (if 0 ≤ x12 then (if x12 < (x10.length : Int) then (if ((rd_T75 x10 x12).f0).size + 2 ≤ 9223372036854775807 then (if (((rd_T75 x10 x12).f0) ++ (⟨#[58, 32]⟩ : ByteArray)).size + ((rd_T75 x10 x12).f1).size ≤ 9223372036854775807 then (if ((((rd_T75 x10 x12).f0) ++ (⟨#[58, 32]⟩ : ByteArray)) ++ ((rd_T75 x10 x12).f1)).size + 2 ≤ 9223372036854775807 then (if x5.size + (((((rd_T75 x10 x12).f0) ++ (⟨#[58, 32]⟩ : ByteArray)) ++ ((rd_T75 x10 x12).f1)) ++ (⟨#[13, 10]⟩ : ByteArray)).size ≤ 9223372036854775807 then (impl_headText.l0 k (x5 ++ (((((rd_T75 x10 x12).f0) ++ (⟨#[58, 32]⟩ : ByteArray)) ++ ((rd_T75 x10 x12).f1)) ++ (⟨#[13, 10]⟩ : ByteArray))) x10 x11 (wrap64 (x12 + 1))) else (none)) else (none)) else (none)) else (none)) else (none)) else (none)) else (if x5.size + 2 ≤ 9223372036854775807 then (some (x5 ++ (⟨#[13, 10]⟩ : ByteArray))) else (none))
def impl_headText.f (k : Nat) (a0 : ByteArray) (l1 : List (S75)) : Option (ByteArray) := if a0.size + 2 ≤ 9223372036854775807 then (impl_headText.l0 k (a0 ++ (⟨#[13, 10]⟩ : ByteArray)) l1 (l1.length : Int) 0) else (none)
theorem impl_headText.mono_l : ∀ k, (∀ y0 y1 y2 y3, LeO (impl_headText.l0 k y0 y1 y2 y3) (impl_headText.l0 (k + 1) y0 y1 y2 y3))
 | 0 => fun _ _ _ _ r h => by simp [impl_headText.l0] at h
 | k + 1 => by
  have ih0 := impl_headText.mono_l k
  ·intro y0 y1 y2 y3
   unfold impl_headText.l0
   repeat' with_reducible first | exact ih0 _ _ _ _ | exact LeO.refl _ | exact LeO.none _ | refine LeO.ite ?_ ?_ | refine LeO.bind ?_ (fun _ => ?_)
theorem impl_headText.mono : ∀ a0 a1 k, LeO (impl_headText.f k a0 a1) (impl_headText.f (k + 1) a0 a1) := by
 intro a0 a1 k
 have ih0 := impl_headText.mono_l k
 unfold impl_headText.f
 repeat' with_reducible first | exact ih0 _ _ _ _ | exact LeO.refl _ | exact LeO.none _ | refine LeO.ite ?_ ?_ | refine LeO.bind ?_ (fun _ => ?_)
set_option maxHeartbeats 8000000 in
set_option maxRecDepth 100000 in
theorem impl_headText.calls (k : Nat) (a0 : ByteArray) (A1 : Option Addr) (c1 : Nat) (l1 : List (S75)) (r : ByteArray) (w : World) (hr1 : Kd.C k75 w A1 l1.length l1) (hc1 : l1.length ≤ c1) (h : impl_headText.f k a0 l1 = some r) :
  Calls Tryz.prog 48 #[.string a0, .slice A1 l1.length c1] w fun e w' => e = .returned (.string r) ∧ Below w.heap.size w w' := by
 have hu75 := Tryz.underlying75
 have HR1 := ak hr1
 have HC1 := ak hc1
 clear hr1 hc1
 have HB := ak (Below.refl w.heap.size w)
 have H : (if a0.size + 2 ≤ 9223372036854775807 then (impl_headText.l0 k (a0 ++ (⟨#[13, 10]⟩ : ByteArray)) l1 (l1.length : Int) 0) else (none)) = some r := h
 clear h
 by_cases c3 : a0.size + 2 ≤ 9223372036854775807
 ·rw [if_pos c3] at H
  have c3b0 := eq_true c3
  have c3b1 : decide (a0.size + 2 ≤ 9223372036854775807) = true := decide_eq_true c3
  try have c3b2 : (9223372036854775807 < a0.size + 2) = False := eq_false (Nat.not_lt.2 c3)
  have H' := ak H
  clear H
  go_enter Tryz.func48, Tryz.ntmps48
  go_wp2
  go_loopg [5, 12] k (fun kq v5 v12 w' => ∃ (x5_1 : ByteArray) (x12_1 : Int), v5 = .string x5_1 ∧ v12 = .int .i64 x12_1 ∧ Aside0 (impl_headText.l0 kq x5_1 l1 (l1.length : Int) x12_1 = some r) ∧ Aside0 (kq ≤ k) ∧ Aside0 (Below w.heap.size w w'))
  case atStart => exact ⟨(a0 ++ (⟨#[13, 10]⟩ : ByteArray)), (0), (by first | rfl | (simp; done) | (simp [*]; done)), (by first | rfl | (simp; done) | (simp [*]; done)), H', ⟨Nat.le_refl _⟩, ⟨bl HB.out⟩⟩
  case round =>
   clear H'
   try clear c1
   try clear p2
   try clear c3
   try clear c3b0
   try clear c3b1
   try clear c3b2
   obtain ⟨x5_1, x12_1, rfl, rfl, HA, HK1, HB⟩ := hrel
   cases gk with
   | zero => exact absurd HA.out (by simp [impl_headText.l0])
   | succ k1 =>
    have H := HA.out
    clear HA
    simp only [impl_headText.l0] at H
    by_cases c4 : x12_1 < (l1.length : Int)
    ·rw [if_pos c4] at H
     have c4b0 : decide (x12_1 < (l1.length : Int)) = true := decide_eq_true c4
     clear c4
     by_cases c5 : 0 ≤ x12_1
     ·rw [if_pos c5] at H
      have c5b0 : decide (0 ≤ x12_1) = true := decide_eq_true c5
      clear c5
      by_cases c6 : x12_1 < (l1.length : Int)
      ·rw [if_pos c6] at H
       have c6b0 : decide (x12_1 < (l1.length : Int)) = true := decide_eq_true c6
       clear c6
       by_cases c7 : ((rd_T75 l1 x12_1).f0).size + 2 ≤ 9223372036854775807
       ·rw [if_pos c7] at H
        have c7b0 := eq_true c7
        have c7b1 : decide (((rd_T75 l1 x12_1).f0).size + 2 ≤ 9223372036854775807) = true := decide_eq_true c7
        try have c7b2 : (9223372036854775807 < ((rd_T75 l1 x12_1).f0).size + 2) = False := eq_false (Nat.not_lt.2 c7)
        by_cases c8 : (((rd_T75 l1 x12_1).f0) ++ (⟨#[58, 32]⟩ : ByteArray)).size + ((rd_T75 l1 x12_1).f1).size ≤ 9223372036854775807
        ·rw [if_pos c8] at H
         have c8b0 := eq_true c8
         have c8b1 : decide ((((rd_T75 l1 x12_1).f0) ++ (⟨#[58, 32]⟩ : ByteArray)).size + ((rd_T75 l1 x12_1).f1).size ≤ 9223372036854775807) = true := decide_eq_true c8
         try have c8b2 : (9223372036854775807 < (((rd_T75 l1 x12_1).f0) ++ (⟨#[58, 32]⟩ : ByteArray)).size + ((rd_T75 l1 x12_1).f1).size) = False := eq_false (Nat.not_lt.2 c8)
         try have c8b3 : (9223372036854775807 < ((rd_T75 l1 x12_1).f0).size + 2 + ((rd_T75 l1 x12_1).f1).size) = False := by (have h_ := c8b2; simp only [ByteArray.size_append] at h_; exact h_)
         by_cases c9 : ((((rd_T75 l1 x12_1).f0) ++ (⟨#[58, 32]⟩ : ByteArray)) ++ ((rd_T75 l1 x12_1).f1)).size + 2 ≤ 9223372036854775807
         ·rw [if_pos c9] at H
          have c9b0 := eq_true c9
          have c9b1 : decide (((((rd_T75 l1 x12_1).f0) ++ (⟨#[58, 32]⟩ : ByteArray)) ++ ((rd_T75 l1 x12_1).f1)).size + 2 ≤ 9223372036854775807) = true := decide_eq_true c9
          try have c9b2 : (9223372036854775807 < ((((rd_T75 l1 x12_1).f0) ++ (⟨#[58, 32]⟩ : ByteArray)) ++ ((rd_T75 l1 x12_1).f1)).size + 2) = False := eq_false (Nat.not_lt.2 c9)
          try have c9b3 : (9223372036854775807 < ((rd_T75 l1 x12_1).f0).size + 2 + ((rd_T75 l1 x12_1).f1).size + 2) = False := by (have h_ := c9b2; simp only [ByteArray.size_append] at h_; exact h_)
          by_cases c10 : x5_1.size + (((((rd_T75 l1 x12_1).f0) ++ (⟨#[58, 32]⟩ : ByteArray)) ++ ((rd_T75 l1 x12_1).f1)) ++ (⟨#[13, 10]⟩ : ByteArray)).size ≤ 9223372036854775807
          ·rw [if_pos c10] at H
           have c10b0 := eq_true c10
           have c10b1 : decide (x5_1.size + (((((rd_T75 l1 x12_1).f0) ++ (⟨#[58, 32]⟩ : ByteArray)) ++ ((rd_T75 l1 x12_1).f1)) ++ (⟨#[13, 10]⟩ : ByteArray)).size ≤ 9223372036854775807) = true := decide_eq_true c10
           try have c10b2 : (9223372036854775807 < x5_1.size + (((((rd_T75 l1 x12_1).f0) ++ (⟨#[58, 32]⟩ : ByteArray)) ++ ((rd_T75 l1 x12_1).f1)) ++ (⟨#[13, 10]⟩ : ByteArray)).size) = False := eq_false (Nat.not_lt.2 c10)
           try have c10b3 : (9223372036854775807 < x5_1.size + (((rd_T75 l1 x12_1).f0).size + 2 + ((rd_T75 l1 x12_1).f1).size + 2)) = False := by (have h_ := c10b2; simp only [ByteArray.size_append] at h_; exact h_)
           have H' := ak H
           clear H
           have p196 : 0 ≤ (x12_1 : Int) := od
           have q196 : x12_1 < (l1.length : Int) := od
           obtain ⟨ad196, e196, hx196_0, hx196_1⟩ := at_T75 HR1.out x12_1 p196 q196
           cases e196
           replace hx196_0 := (HB.out.cell (World.block_lt_of_cell? w _ hx196_0)).trans hx196_0
           replace hx196_1 := (HB.out.cell (World.block_lt_of_cell? w _ hx196_1)).trans hx196_1
           replace p196 := eq_true p196
           replace q196 := eq_true q196
           go_wp2_with (first | ((with_reducible refine gd 7 ?_); refine bE 7 #[.string (⟨#[]⟩ : ByteArray), .string (⟨#[]⟩ : ByteArray)] 75 ?_; intro gb197 hg w11 hbox hb; have BK197 := ak hbox; have GW197 := gs hg (bl HB.out); have GE197 := gs hg (bl HB.out); replace HB := ak (below_step (bl HB.out) hb); clear hb hbox hg; obtain ⟨hcz12_0, hcz12_1, hfz12_0, hfz12_1⟩ := b2 BK197.out))
           go_roundg k1
           case measure => have := HK1.out; omega
           case rel => exact ⟨(x5_1 ++ (((((rd_T75 l1 x12_1).f0) ++ (⟨#[58, 32]⟩ : ByteArray)) ++ ((rd_T75 l1 x12_1).f1)) ++ (⟨#[13, 10]⟩ : ByteArray))), (wrap64 (x12_1 + 1)), (by first | rfl | (simp; done) | (simp [*]; done)), (by first | rfl | (simp; done) | (simp [*]; done)), H', ⟨by have := HK1.out; omega⟩, ⟨bl1 HB.out GE197.out⟩⟩
          ·rw [if_neg c10] at H
           exact absurd H (by simp)
         ·rw [if_neg c9] at H
          exact absurd H (by simp)
        ·rw [if_neg c8] at H
         exact absurd H (by simp)
       ·rw [if_neg c7] at H
        exact absurd H (by simp)
      ·rw [if_neg c6] at H
       exact absurd H (by simp)
     ·rw [if_neg c5] at H
      exact absurd H (by simp)
    ·rw [if_neg c4] at H
     have c4b0 : decide (x12_1 < (l1.length : Int)) = false := decide_eq_false c4
     clear c4
     by_cases c13 : x5_1.size + 2 ≤ 9223372036854775807
     ·rw [if_pos c13] at H
      have c13b0 := eq_true c13
      have c13b1 : decide (x5_1.size + 2 ≤ 9223372036854775807) = true := decide_eq_true c13
      try have c13b2 : (9223372036854775807 < x5_1.size + 2) = False := eq_false (Nat.not_lt.2 c13)
      obtain rfl := Option.some.inj H
      go_wp2
      go_ret
      exact ⟨by first | rfl | (simp [errW_none, errW_some] <;> rfl) | (simp [*, errW_none, errW_some] <;> rfl), bl HB.out⟩
     ·rw [if_neg c13] at H
      exact absurd H (by simp)
 ·rw [if_neg c3] at H
  exact absurd H (by simp)

-- NOT PRINTED: function 76 (stringslite_Cut)

/-! ### strings_Cut: function 43 -/
def cutT (s sep : ByteArray) : ByteArray × ByteArray × Bool := (⟨(Lib.cut s.data.toList sep.data.toList).1.toArray⟩, ⟨(Lib.cut s.data.toList sep.data.toList).2.1.toArray⟩, (Lib.cut s.data.toList sep.data.toList).2.2)
def strings_Cut.f (a0 : ByteArray) (a1 : ByteArray) : Option (ByteArray × ByteArray × Bool) := if a0.size < 4294967281 then some (cutT a0 a1) else none
theorem strings_Cut.calls (a0 : ByteArray) (a1 : ByteArray) (r1 : ByteArray) (r2 : ByteArray) (r3 : Bool) (w : World) (h : strings_Cut.f a0 a1 = some (r1, r2, r3)) (ht : Glob w) :
  Calls Tryz.prog 43 #[.string a0, .string a1] w fun e w' => e = .returned (.tuple #[.string r1, .string r2, .bool r3]) ∧ Below w.heap.size w w' := by
 unfold strings_Cut.f at h
 split at h
 ·rename_i hs
  have h := Option.some.inj h
  unfold cutT at h
  simp only [Prod.mk.injEq] at h
  obtain ⟨rfl, rfl, rfl⟩ := h
  exact trCut a0 a1 w hs ht
 ·cases h


-- NOT PRINTED: function 140 (strings_trimLeftByte)

-- NOT PRINTED: function 141 (strings_trimRightByte)

-- NOT PRINTED: function 142 (strings_makeASCIISet)

-- NOT PRINTED: function 159 (strings_asciiSet_contains)

-- NOT PRINTED: function 143 (strings_trimLeftASCII)

-- NOT PRINTED: function 144 (strings_trimRightASCII)

/-! ### strings_IndexByte: function 130 -/
def strings_IndexByte.f (a0 : ByteArray) (a1 : Int) : Option Int := some (Lib.indexByte a0.data.toList a1.toNat.toUInt8)
theorem strings_IndexByte.calls (a0 : ByteArray) (a1 : Int) (r : Int) (w : World) (h : strings_IndexByte.f a0 a1 = some r) :
  Calls Tryz.prog 130 #[.string a0, .int .u8 a1] w fun e w' => e = .returned (.int .i64 r) ∧ Below w.heap.size w w' := by
 obtain rfl := Option.some.inj h
 exact trIndexByte a0 a1 w


/-! ### utf8_ValidRune: function 175 -/
mutual
def utf8_ValidRune.j0 : Nat → Int → Bool → Option (Bool)
 | 0, _, _ => none
 | k + 1, x0, x3 => if x3 = true then (some true) else (if 57343 < x0 then (utf8_ValidRune.j1 k (decide (x0 ≤ 1114111))) else (utf8_ValidRune.j1 k false))
def utf8_ValidRune.j1 : Nat → Bool → Option (Bool)
 | 0, _ => none
 | k + 1, x10 => if x10 = true then (some true) else (some false)
end
def utf8_ValidRune.f (k : Nat) (a0 : Int) : Option (Bool) := if 0 ≤ a0 then (utf8_ValidRune.j0 k a0 (decide (a0 < 55296))) else (utf8_ValidRune.j0 k a0 false)
theorem utf8_ValidRune.mono_l : ∀ k, (∀ y0 y1, LeO (utf8_ValidRune.j0 k y0 y1) (utf8_ValidRune.j0 (k + 1) y0 y1)) ∧ (∀ y0, LeO (utf8_ValidRune.j1 k y0) (utf8_ValidRune.j1 (k + 1) y0))
 | 0 => ⟨fun _ _ r h => by simp [utf8_ValidRune.j0] at h, fun _ r h => by simp [utf8_ValidRune.j1] at h⟩
 | k + 1 => by
  obtain ⟨ih0, ih1⟩ := utf8_ValidRune.mono_l k
  refine ⟨?_, ?_⟩
  ·intro y0 y1
   unfold utf8_ValidRune.j0
   repeat' with_reducible first | exact ih0 _ _ | exact ih1 _ | exact LeO.refl _ | exact LeO.none _ | refine LeO.ite ?_ ?_ | refine LeO.bind ?_ (fun _ => ?_)
  ·intro y0
   unfold utf8_ValidRune.j1
   repeat' with_reducible first | exact ih0 _ _ | exact ih1 _ | exact LeO.refl _ | exact LeO.none _ | refine LeO.ite ?_ ?_ | refine LeO.bind ?_ (fun _ => ?_)
theorem utf8_ValidRune.mono : ∀ a0 k, LeO (utf8_ValidRune.f k a0) (utf8_ValidRune.f (k + 1) a0) := by
 intro a0 k
 obtain ⟨ih0, ih1⟩ := utf8_ValidRune.mono_l k
 unfold utf8_ValidRune.f
 repeat' with_reducible first | exact ih0 _ _ | exact ih1 _ | exact LeO.refl _ | exact LeO.none _ | refine LeO.ite ?_ ?_ | refine LeO.bind ?_ (fun _ => ?_)
set_option maxHeartbeats 8000000 in
set_option maxRecDepth 100000 in
theorem utf8_ValidRune.calls (k : Nat) (a0 : Int) (r : Bool) (w : World) (h : utf8_ValidRune.f k a0 = some r) :
  Calls Tryz.prog 175 #[.int .i32 a0] w fun e w' => e = .returned (.bool r) ∧ Drawn0 w w' := by
 have H : (if 0 ≤ a0 then (utf8_ValidRune.j0 k a0 (decide (a0 < 55296))) else (utf8_ValidRune.j0 k a0 false)) = some r := h
 clear h
 have HC2 := ak H
 clear H
 go_enter Tryz.func175, Tryz.ntmps175
 go_upto_region 1 with (fail)
 go_cut [3] (fun v3 wc => ∃ (kq : Nat) (x3_1 : Bool), v3 = .bool x3_1 ∧ Aside0 (utf8_ValidRune.j0 kq a0 x3_1 = some r) ∧ Aside0 (kq ≤ k) ∧ Drawn0 w wc)
 case first =>
  have H := HC2.out
  clear HC2
  by_cases c3 : 0 ≤ a0
  ·rw [if_pos c3] at H
   have c3b0 : decide (0 ≤ a0) = true := decide_eq_true c3
   clear c3
   (first | rw [c3b0] | (simp only [i64_w, i32_w]; rw [c3b0]) | skip)
   have H' := ak H
   clear H
   go_wp2
   go_meet
   case rel => exact ⟨_, (decide (a0 < 55296)), (by first | rfl | (simp; done) | (simp [*]; done)), H', ⟨by first | omega | exact Nat.le_refl _⟩, by repeat (first | exact Drawn0.refl _ | apply Drawn0.step)⟩
  ·rw [if_neg c3] at H
   have c3b0 : decide (0 ≤ a0) = false := decide_eq_false c3
   clear c3
   (first | rw [c3b0] | (simp only [i64_w, i32_w]; rw [c3b0]) | skip)
   have H' := ak H
   clear H
   go_wp2
   go_meet
   case rel => exact ⟨_, (false), (by first | rfl | (simp; done) | (simp [*]; done)), H', ⟨by first | omega | exact Nat.le_refl _⟩, by repeat (first | exact Drawn0.refl _ | apply Drawn0.step)⟩
 case rest =>
  clear HC2
  try clear c1
  try clear p2
  try clear c3
  try clear c3b0
  obtain ⟨kq, x3_1, rfl, HA, HJ1, ⟨mc1, rfl⟩⟩ := hcut
  cases kq with
  | zero => exact absurd HA.out (by simp [utf8_ValidRune.j0])
  | succ kj1 =>
   have H := HA.out
   clear HA
   simp only [utf8_ValidRune.j0] at H
   by_cases c4 : x3_1 = true
   ·subst c4
    rw [if_pos rfl] at H
    obtain rfl := Option.some.inj H
    go_wp2
    go_ret
    exact ⟨by first | rfl | (simp; done) | (simp [*]; done), by repeat (first | exact Drawn0.refl _ | apply Drawn0.step)⟩
   ·replace c4 := Bool.eq_false_iff.mpr c4
    subst c4
    rw [if_neg ff] at H
    have HC5 := ak H
    clear H
    go_upto_region 3 with (fail)
    go_cut [10] (fun v10 wc => ∃ (kq : Nat) (x10_4 : Bool), v10 = .bool x10_4 ∧ Aside0 (utf8_ValidRune.j1 kq x10_4 = some r) ∧ Aside0 (kq ≤ kj1) ∧ Drawn0 w wc)
    case first =>
     have H := HC5.out
     clear HC5
     by_cases c6 : 57343 < a0
     ·rw [if_pos c6] at H
      have c6b0 : decide (57343 < a0) = true := decide_eq_true c6
      clear c6
      (first | rw [c6b0] | (simp only [i64_w, i32_w]; rw [c6b0]) | skip)
      have H' := ak H
      clear H
      go_wp2
      go_meet
      case rel => exact ⟨_, (decide (a0 ≤ 1114111)), (by first | rfl | (simp; done) | (simp [*]; done)), H', ⟨by have := HJ1.out; first | omega | exact Nat.le_refl _⟩, by repeat (first | exact Drawn0.refl _ | apply Drawn0.step)⟩
     ·rw [if_neg c6] at H
      have c6b0 : decide (57343 < a0) = false := decide_eq_false c6
      clear c6
      (first | rw [c6b0] | (simp only [i64_w, i32_w]; rw [c6b0]) | skip)
      have H' := ak H
      clear H
      go_wp2
      go_meet
      case rel => exact ⟨_, (false), (by first | rfl | (simp; done) | (simp [*]; done)), H', ⟨by have := HJ1.out; first | omega | exact Nat.le_refl _⟩, by repeat (first | exact Drawn0.refl _ | apply Drawn0.step)⟩
    case rest =>
     clear HC5
     try clear c1
     try clear p2
     try clear c3
     try clear c3b0
     try clear c4
     try clear c6
     try clear c6b0
     try clear p2
     obtain ⟨kq, x10_4, rfl, HA, HJ4, ⟨mc4, rfl⟩⟩ := hcut
     cases kq with
     | zero => exact absurd HA.out (by simp [utf8_ValidRune.j1])
     | succ kj4 =>
      have H := HA.out
      clear HA
      simp only [utf8_ValidRune.j1] at H
      by_cases c7 : x10_4 = true
      ·subst c7
       rw [if_pos rfl] at H
       obtain rfl := Option.some.inj H
       go_wp2
       go_ret
       exact ⟨by first | rfl | (simp; done) | (simp [*]; done), by repeat (first | exact Drawn0.refl _ | apply Drawn0.step)⟩
      ·replace c7 := Bool.eq_false_iff.mpr c7
       subst c7
       rw [if_neg ff] at H
       obtain rfl := Option.some.inj H
       go_wp2
       go_ret
       exact ⟨by first | rfl | (simp; done) | (simp [*]; done), by repeat (first | exact Drawn0.refl _ | apply Drawn0.step)⟩

-- NOT PRINTED: function 171 (strings_IndexRune)

-- NOT PRINTED: function 160 (strings_ContainsRune)

-- NOT PRINTED: function 145 (strings_trimLeftUnicode)

/-! ### utf8_RuneStart: function 172 -/
def utf8_RuneStart.f (a0 : Int) : Option (Bool) := some ((Go.bits .and .u8 a0 192) != 128)
set_option maxHeartbeats 8000000 in
set_option maxRecDepth 100000 in
theorem utf8_RuneStart.calls (a0 : Int) (r : Bool) (w : World) (h : utf8_RuneStart.f a0 = some r) :
  Calls Tryz.prog 172 #[.int .u8 a0] w fun e w' => e = .returned (.bool r) ∧ Drawn0 w w' := by
 have H : (some ((Go.bits .and .u8 a0 192) != 128)) = some r := h
 clear h
 obtain rfl := Option.some.inj H
 go_enter Tryz.func172, Tryz.ntmps172
 go_wp2
 go_ret
 exact ⟨by first | rfl | (simp; done) | (simp [*]; done), by repeat (first | exact Drawn0.refl _ | apply Drawn0.step)⟩

-- NOT PRINTED: function 161 (utf8_DecodeLastRuneInString)

-- NOT PRINTED: function 146 (strings_trimRightUnicode)

/-! ### strings_Trim (blanks): function 123 -/
def trimT (s : ByteArray) : ByteArray := ⟨(Lib.trimS s.data.toList [32]).toArray⟩
def strings_Trim.f (a0 : ByteArray) (a1 : ByteArray) : Option ByteArray := if a0.size ≤ 9223372036854775807 ∧ a1 = ⟨#[32]⟩ then some (trimT a0) else none
theorem strings_Trim.calls (a0 : ByteArray) (a1 : ByteArray) (r : ByteArray) (w : World) (h : strings_Trim.f a0 a1 = some r) :
  Calls Tryz.prog 123 #[.string a0, .string a1] w fun e w' => e = .returned (.string r) ∧ Below w.heap.size w w' := by
 unfold strings_Trim.f at h
 split at h
 ·rename_i hs
  obtain ⟨hs, rfl⟩ := hs
  obtain rfl := Option.some.inj h
  exact trTrim a0 ⟨#[32]⟩ w hs (by decide) (ascii_of_all (by decide))
 ·cases h


/-! ### impl_within: function 79 -/
def impl_within.f (a0 : Int) (a1 : Int) (a2 : Int) : Option (Bool) := if a1 ≤ a0 then (some (decide (a0 ≤ a2))) else (some false)
set_option maxHeartbeats 8000000 in
set_option maxRecDepth 100000 in
theorem impl_within.calls (a0 : Int) (a1 : Int) (a2 : Int) (r : Bool) (w : World) (h : impl_within.f a0 a1 a2 = some r) :
  Calls Tryz.prog 79 #[.int .i64 a0, .int .i64 a1, .int .i64 a2] w fun e w' => e = .returned (.bool r) ∧ Drawn0 w w' := by
 have H : (if a1 ≤ a0 then (some (decide (a0 ≤ a2))) else (some false)) = some r := h
 clear h
 by_cases c4 : a1 ≤ a0
 ·rw [if_pos c4] at H
  have c4b0 : decide (a1 ≤ a0) = true := decide_eq_true c4
  clear c4
  obtain rfl := Option.some.inj H
  go_enter Tryz.func79, Tryz.ntmps79
  go_wp2
  go_ret
  exact ⟨by first | rfl | (simp; done) | (simp [*]; done), by repeat (first | exact Drawn0.refl _ | apply Drawn0.step)⟩
 ·rw [if_neg c4] at H
  have c4b0 : decide (a1 ≤ a0) = false := decide_eq_false c4
  clear c4
  obtain rfl := Option.some.inj H
  go_enter Tryz.func79, Tryz.ntmps79
  go_wp2
  go_ret
  exact ⟨by first | rfl | (simp; done) | (simp [*]; done), by repeat (first | exact Drawn0.refl _ | apply Drawn0.step)⟩

-- NOT PRINTED: function 162 (slices_IndexFunc_byte_byte)

-- NOT PRINTED: function 147 (slices_ContainsFunc_byte_byte)

-- NOT PRINTED: function 148 (impl_areAll_byte_1)

-- NOT PRINTED: function 125 (impl_areAll_byte)

-- NOT PRINTED: function 99 (impl_areBytes)

/-! ### impl_isDigit: function 100 -/
def impl_isDigit.f (a0 : Int) : Option (Bool) := if a0 ≥ 48 then (some (decide (a0 ≤ 57))) else (some false)
set_option maxHeartbeats 8000000 in
set_option maxRecDepth 100000 in
theorem impl_isDigit.calls (a0 : Int) (r : Bool) (w : World) (h : impl_isDigit.f a0 = some r) :
  Calls Tryz.prog 100 #[.int .u8 a0] w fun e w' => e = .returned (.bool r) ∧ Drawn0 w w' := by
 have H : (if a0 ≥ 48 then (some (decide (a0 ≤ 57))) else (some false)) = some r := h
 clear h
 by_cases c2 : a0 ≥ 48
 ·rw [if_pos c2] at H
  have c2b0 : decide (48 ≤ a0) = true := decide_eq_true c2
  clear c2
  obtain rfl := Option.some.inj H
  go_enter Tryz.func100, Tryz.ntmps100
  go_wp2
  go_ret
  exact ⟨by first | rfl | (simp; done) | (simp [*]; done), by repeat (first | exact Drawn0.refl _ | apply Drawn0.step)⟩
 ·rw [if_neg c2] at H
  have c2b0 : decide (48 ≤ a0) = false := decide_eq_false c2
  clear c2
  obtain rfl := Option.some.inj H
  go_enter Tryz.func100, Tryz.ntmps100
  go_wp2
  go_ret
  exact ⟨by first | rfl | (simp; done) | (simp [*]; done), by repeat (first | exact Drawn0.refl _ | apply Drawn0.step)⟩

/-! ### impl_isLetter: function 129 -/
def impl_isLetter.f (a0 : Int) : Option (Bool) := if (Go.bits .or .u8 a0 32) ≥ 97 then (some (decide ((Go.bits .or .u8 a0 32) ≤ 122))) else (some false)
set_option maxHeartbeats 8000000 in
set_option maxRecDepth 100000 in
theorem impl_isLetter.calls (a0 : Int) (r : Bool) (w : World) (h : impl_isLetter.f a0 = some r) :
  Calls Tryz.prog 129 #[.int .u8 a0] w fun e w' => e = .returned (.bool r) ∧ Drawn0 w w' := by
 have H : (if (Go.bits .or .u8 a0 32) ≥ 97 then (some (decide ((Go.bits .or .u8 a0 32) ≤ 122))) else (some false)) = some r := h
 clear h
 by_cases c2 : (Go.bits .or .u8 a0 32) ≥ 97
 ·rw [if_pos c2] at H
  have c2b0 : decide (97 ≤ (Go.bits .or .u8 a0 32)) = true := decide_eq_true c2
  clear c2
  obtain rfl := Option.some.inj H
  go_enter Tryz.func129, Tryz.ntmps129
  go_wp2
  go_ret
  exact ⟨by first | rfl | (simp; done) | (simp [*]; done), by repeat (first | exact Drawn0.refl _ | apply Drawn0.step)⟩
 ·rw [if_neg c2] at H
  have c2b0 : decide (97 ≤ (Go.bits .or .u8 a0 32)) = false := decide_eq_false c2
  clear c2
  obtain rfl := Option.some.inj H
  go_enter Tryz.func129, Tryz.ntmps129
  go_wp2
  go_ret
  exact ⟨by first | rfl | (simp; done) | (simp [*]; done), by repeat (first | exact Drawn0.refl _ | apply Drawn0.step)⟩

end Go.Proofs.YthneflfbafieeaaGreatDoor.PFnTorn
