-- written by a program of this session (wip/tool)
import Derived.Test.YthneflfbafieeaaGreatDoorPFnTornx0
import Derived.Test.YthneflfbafieeaaGreatDoorPFnTornx2
import Derived.Test.YthneflfbafieeaaGreatDoorPFnTornx7
import Derived.Test.YthneflfbafieeaaGreatDoorPFnTornx10
import Derived.Test.YthneflfbafieeaaGreatDoorPFnTornx11
import Derived.Test.YthneflfbafieeaaGreatDoorPFnTornx12
import Derived.Test.YthneflfbafieeaaGreatDoorPFnTornx16
import Derived.Test.YthneflfbafieeaaGreatDoorPFnTornx17
import Derived.Test.YthneflfbafieeaaGreatDoorVOwn0
import Derived.Test.YthneflfbafieeaaGreatDoorVOwnOpen
import Derived.WalkKit
import Derived.BigCall
import Derived.Test.YthneflfbafieeaaGreatDoorOwnTr
import Derived.Test.YthneflfbafieeaaGreatDoorVOwnShort
import Derived.Test.YthneflfbafieeaaGreatDoorOwnSq
namespace Go.Proofs.YthneflfbafieeaaGreatDoor.PFnTorn
open Go.RowKit Go.Proofs.YthneflfbafieeaaGreatDoorW.PrintWords Go.Proofs.YthneflfbafieeaaGreatDoorW.PrintLast Go.Proofs.YthneflfbafieeaaGreatDoorW.PrintMore Go.Shelf Go.Proofs.YthneflfbafieeaaGreatDoorOwn
attribute [local go_sem] max2_int min2_int max_two min_two max_three min_three max_four min_four   -- for this text's walks alone
set_option linter.unusedVariables false
set_option linter.unusedSimpArgs false

/-! ### spec_TakeResponse: function 11 -/
def spec_TakeResponse.j0 : Nat → ByteArray → List ByteArray → Int → Bool → Int → ByteArray → ByteArray → Option (Int × ByteArray × (List (S75)) × ByteArray × Int × Int)
 | 0, _, _, _, _, _, _, _ => none
 | k + 1, x0, x5, x6, x72, x303000, x303001, x303003 => if x72 = true then (some (0, (⟨#[]⟩ : ByteArray), ([] : List (S75)), (⟨#[]⟩ : ByteArray), 0, 2)) else (if 1 ≤ (x5.length : Int) then ((spec_l4Rest.f k x0 (x5.drop 1) x6).bind fun bt309 => (if bt309.2.2.2 = 0 then ((spec_GoodResponse.f k x303000 x303001 bt309.1 bt309.2.1).bind fun t315 => (if t315 = true then (some (x303000, x303001, bt309.1, bt309.2.1, bt309.2.2.1, 0)) else (some (0, (⟨#[]⟩ : ByteArray), ([] : List (S75)), (⟨#[]⟩ : ByteArray), 0, 5)))) else (some (0, (⟨#[]⟩ : ByteArray), ([] : List (S75)), (⟨#[]⟩ : ByteArray), 0, bt309.2.2.2)))) else (none))
def spec_TakeResponse.f (k : Nat) (a0 : ByteArray) : Option (Int × ByteArray × (List (S75)) × ByteArray × Int × Int) := (spec_l4Lines.f k a0).bind fun bt289 => (if bt289.2.2 = 0 then (if 0 < (bt289.1.length : Int) then ((spec_l1Cut.f k (rdOf ByteArray.empty bt289.1 0) 32).bind fun bt295 => ((spec_l1Cut.f k bt295.2.1 32).bind fun bt298 => ((spec_l1Int.f k bt298.1).bind fun t301 => (if bt295.2.2 = true then (if bt298.2.2 = true then (if bt295.1.toList = ([72, 84, 84, 80, 47, 49, 46, 49] : List UInt8) then (if (bt298.1.size : Int) = 3 then ((spec_l1In.f t301 100 599).bind fun t303 => (if t303 = true then ((spec_l4Reason.f k bt298.2.1).bind fun t304 => (spec_TakeResponse.j0 k a0 bt289.1 bt289.2.1 (!t304) t301 bt298.2.1 (⟨#[]⟩ : ByteArray))) else (spec_TakeResponse.j0 k a0 bt289.1 bt289.2.1 true t301 bt298.2.1 (⟨#[]⟩ : ByteArray)))) else (spec_TakeResponse.j0 k a0 bt289.1 bt289.2.1 true t301 bt298.2.1 (⟨#[]⟩ : ByteArray))) else (spec_TakeResponse.j0 k a0 bt289.1 bt289.2.1 true t301 bt298.2.1 (⟨#[]⟩ : ByteArray))) else (spec_TakeResponse.j0 k a0 bt289.1 bt289.2.1 true t301 bt298.2.1 (⟨#[]⟩ : ByteArray))) else (spec_TakeResponse.j0 k a0 bt289.1 bt289.2.1 true t301 bt298.2.1 (⟨#[]⟩ : ByteArray)))))) else (none)) else (some (0, (⟨#[]⟩ : ByteArray), ([] : List (S75)), (⟨#[]⟩ : ByteArray), 0, bt289.2.2)))
theorem spec_TakeResponse.mono_l : ∀ k, (∀ y0 y1 y2 y3 y4 y5 y6, LeO (spec_TakeResponse.j0 k y0 y1 y2 y3 y4 y5 y6) (spec_TakeResponse.j0 (k + 1) y0 y1 y2 y3 y4 y5 y6))
 | 0 => fun _ _ _ _ _ _ _ r h => by simp [spec_TakeResponse.j0] at h
 | k + 1 => by
  have ih0 := spec_TakeResponse.mono_l k
  ·intro y0 y1 y2 y3 y4 y5 y6
   unfold spec_TakeResponse.j0
   repeat' with_reducible first | exact ih0 _ _ _ _ _ _ _ | exact spec_GoodResponse.mono _ _ _ _ _ | exact spec_l1Cut.mono _ _ _ | exact spec_l1Int.mono _ _ | exact spec_l4Lines.mono _ _ | exact spec_l4Reason.mono _ _ | exact spec_l4Rest.mono _ _ _ _ | exact LeO.refl _ | exact LeO.none _ | refine LeO.ite ?_ ?_ | refine LeO.bind ?_ (fun _ => ?_)
theorem spec_TakeResponse.mono : ∀ a0 k, LeO (spec_TakeResponse.f k a0) (spec_TakeResponse.f (k + 1) a0) := by
 intro a0 k
 have ih0 := spec_TakeResponse.mono_l k
 unfold spec_TakeResponse.f
 repeat' with_reducible first | exact ih0 _ _ _ _ _ _ _ | exact spec_GoodResponse.mono _ _ _ _ _ | exact spec_l1Cut.mono _ _ _ | exact spec_l1Int.mono _ _ | exact spec_l4Lines.mono _ _ | exact spec_l4Reason.mono _ _ | exact spec_l4Rest.mono _ _ _ _ | exact LeO.refl _ | exact LeO.none _ | refine LeO.ite ?_ ?_ | refine LeO.bind ?_ (fun _ => ?_)
set_option maxHeartbeats 8000000 in
set_option maxRecDepth 100000 in
theorem spec_TakeResponse.calls (k : Nat) (a0 : ByteArray) (r1 : Int) (r2 : ByteArray) (r3 : List (S75)) (r4 : ByteArray) (r5 : Int) (r6 : Int) (w : World) (h : spec_TakeResponse.f k a0 = some (r1, r2, r3, r4, r5, r6)) :
  Calls Tryz.prog 11 #[.string a0] w fun e w' => ∃ v2_ : Value, e = .returned (.tuple #[.agg #[.int .i64 r1, .string r2, v2_, .string r4], .int .i64 r5, .int .i64 r6]) ∧ Kd.R k75 75 w' w.heap.size (fun _ => True) v2_ r3 ∧ Below w.heap.size w w' := by
 have hu31 := Tryz.underlying31
 have HB := ak (Below.refl w.heap.size w)
 have H : ((spec_l4Lines.f k a0).bind fun bt289 => (if bt289.2.2 = 0 then (if 0 < (bt289.1.length : Int) then ((spec_l1Cut.f k (rdOf ByteArray.empty bt289.1 0) 32).bind fun bt295 => ((spec_l1Cut.f k bt295.2.1 32).bind fun bt298 => ((spec_l1Int.f k bt298.1).bind fun t301 => (if bt295.2.2 = true then (if bt298.2.2 = true then (if bt295.1.toList = ([72, 84, 84, 80, 47, 49, 46, 49] : List UInt8) then (if (bt298.1.size : Int) = 3 then ((spec_l1In.f t301 100 599).bind fun t303 => (if t303 = true then ((spec_l4Reason.f k bt298.2.1).bind fun t304 => (spec_TakeResponse.j0 k a0 bt289.1 bt289.2.1 (!t304) t301 bt298.2.1 (⟨#[]⟩ : ByteArray))) else (spec_TakeResponse.j0 k a0 bt289.1 bt289.2.1 true t301 bt298.2.1 (⟨#[]⟩ : ByteArray)))) else (spec_TakeResponse.j0 k a0 bt289.1 bt289.2.1 true t301 bt298.2.1 (⟨#[]⟩ : ByteArray))) else (spec_TakeResponse.j0 k a0 bt289.1 bt289.2.1 true t301 bt298.2.1 (⟨#[]⟩ : ByteArray))) else (spec_TakeResponse.j0 k a0 bt289.1 bt289.2.1 true t301 bt298.2.1 (⟨#[]⟩ : ByteArray))) else (spec_TakeResponse.j0 k a0 bt289.1 bt289.2.1 true t301 bt298.2.1 (⟨#[]⟩ : ByteArray)))))) else (none)) else (some (0, (⟨#[]⟩ : ByteArray), ([] : List (S75)), (⟨#[]⟩ : ByteArray), 0, bt289.2.2)))) = some (r1, r2, r3, r4, r5, r6) := h
 clear h
 replace H := bs H
 obtain ⟨⟨t289, t290, t291⟩, A2, H⟩ := H
 try dsimp only at H
 by_cases c3 : t291 = 0
 ·rw [if_pos c3] at H
  have c3b0 : (t291 == 0) = true := beq_iff_eq.mpr c3
  have c3b1 : (t291 != 0) = false := bne_eq_false_iff_eq.mpr c3
  clear c3
  by_cases c4 : 0 < (t289.length : Int)
  ·rw [if_pos c4] at H
   have c4b0 : decide (0 < (t289.length : Int)) = true := decide_eq_true c4
   have c4b1 : decide (0 < t289.length) = true := decide_eq_true (by omega)
   clear c4
   replace H := bs H
   obtain ⟨⟨t295, t296, t297⟩, A5, H⟩ := H
   try dsimp only at H
   replace H := bs H
   obtain ⟨⟨t298, t299, t300⟩, A6, H⟩ := H
   try dsimp only at H
   replace H := bs H
   obtain ⟨t301, A7, H⟩ := H
   try dsimp only at H
   have HC8 := ak H
   clear H
   go_enter Tryz.func11, Tryz.ntmps11
   go_upto_region 7 with (first | ((with_reducible refine gd 2 ?_); (try (refine gate_guard (by rfl) ?_; dsimp only)); refine bE 2 #[.int .i64 0, .string (⟨#[]⟩ : ByteArray), .slice none 0 0, .string (⟨#[]⟩ : ByteArray)] 31 ?_; intro gb288 hg w9 hbox hb; have BK288 := ak hbox; have GW288 := gs hg (bl HB.out); have GE288 := gs hg (bl HB.out); replace HB := ak (below_step (bl HB.out) hb); clear hb hbox hg) | ((with_reducible refine gc 24 ?_); refine gL 24 Tryz.func24 (some 21) #[.string a0] ?_; (with_reducible refine (spec_l4Lines.calls k a0 t289 t290 t291 _ A2.out).mono ?_); rintro e w10 ⟨v292, rfl, ho0, hb⟩; refine ⟨_, rfl, ?_⟩; have HO293 := ak (Kd.R_lower ho0 (below_size (bl1 HB.out GE288.out))); replace BK288 := ak (blk_below (bk BK288.out) hb); replace HB := ak (below_step (bl1 HB.out GE288.out) hb); clear hb ho0; obtain ⟨Ao11, co11, eo11⟩ := Kd.R_slice HO293.out; subst eo11; have p294 : 0 ≤ (0 : Int) := (by omega); have q294 : 0 < (t289.length : Int) := od; obtain ⟨ad294, e294, hx294_0⟩ := Kd.at_string (Kd.R_reads' HO293.out).2.2 0 p294 q294; cases e294; have qi294 : (0 < t289.length) = True := eq_true (by omega); (try rw [show ((0 : Int)).toNat = 0 from rfl] at hx294_0); (try rw [Addr.add_zero'] at hx294_0); replace p294 := eq_true p294; replace q294 := eq_true q294) | ((with_reducible refine gc 25 ?_); refine gL 25 Tryz.func25 (some 33) #[.string (rdOf ByteArray.empty t289 0), .int .u8 32] ?_; (with_reducible refine (spec_l1Cut.calls k (rdOf ByteArray.empty t289 0) 32 t295 t296 t297 _ A5.out).mono ?_); rintro e w' ⟨rfl, ⟨nd, rfl⟩⟩; refine ⟨_, rfl, ?_⟩; (try (rw [drewN_self w10]; generalize hq_ : World.drewN w10 _ = w10; have n0_ : Aside0 (Kd.R Kd.string 9 w10 w.heap.size (fun _ => True) (.slice (some ad294) t289.length co11) t289) := ⟨by rw [← hq_]; exact (kr HO293.out)⟩; have n1_ : Aside0 (w10.heap[gb288]? = some (.cells #[.int .i64 0, .string (⟨#[]⟩ : ByteArray), .slice none 0 0, .string (⟨#[]⟩ : ByteArray)] 31 (0, 0))) := ⟨by rw [← hq_]; exact (bk BK288.out)⟩; have n2_ : Aside0 (Below w.heap.size w w10) := ⟨by rw [← hq_]; exact (bl1 HB.out GE288.out)⟩; clear HO293 BK288 HB hq_; have HO293 := n0_; have BK288 := n1_; have HB := n2_; clear n0_ n1_ n2_))) | ((with_reducible refine gc 25 ?_); refine gL 25 Tryz.func25 (some 39) #[.string t296, .int .u8 32] ?_; (with_reducible refine (spec_l1Cut.calls k t296 32 t298 t299 t300 _ A6.out).mono ?_); rintro e w' ⟨rfl, ⟨nd, rfl⟩⟩; refine ⟨_, rfl, ?_⟩; (try (rw [drewN_self w10]; generalize hq_ : World.drewN w10 _ = w10; have n0_ : Aside0 (Kd.R Kd.string 9 w10 w.heap.size (fun _ => True) (.slice (some ad294) t289.length co11) t289) := ⟨by rw [← hq_]; exact (kr HO293.out)⟩; have n1_ : Aside0 (w10.heap[gb288]? = some (.cells #[.int .i64 0, .string (⟨#[]⟩ : ByteArray), .slice none 0 0, .string (⟨#[]⟩ : ByteArray)] 31 (0, 0))) := ⟨by rw [← hq_]; exact (bk BK288.out)⟩; have n2_ : Aside0 (Below w.heap.size w w10) := ⟨by rw [← hq_]; exact (bl1 HB.out GE288.out)⟩; clear HO293 BK288 HB hq_; have HO293 := n0_; have BK288 := n1_; have HB := n2_; clear n0_ n1_ n2_))) | ((with_reducible refine gc 37 ?_); refine gL 37 Tryz.func37 (some 44) #[.string t298] ?_; (with_reducible refine (spec_l1Int.calls k t298 t301 _ A7.out).mono ?_); rintro e w' ⟨rfl, ⟨nd, rfl⟩⟩; refine ⟨_, rfl, ?_⟩; (try (rw [drewN_self w10]; generalize hq_ : World.drewN w10 _ = w10; have n0_ : Aside0 (Kd.R Kd.string 9 w10 w.heap.size (fun _ => True) (.slice (some ad294) t289.length co11) t289) := ⟨by rw [← hq_]; exact (kr HO293.out)⟩; have n1_ : Aside0 (w10.heap[gb288]? = some (.cells #[.int .i64 0, .string (⟨#[]⟩ : ByteArray), .slice none 0 0, .string (⟨#[]⟩ : ByteArray)] 31 (0, 0))) := ⟨by rw [← hq_]; exact (bk BK288.out)⟩; have n2_ : Aside0 (Below w.heap.size w w10) := ⟨by rw [← hq_]; exact (bl1 HB.out GE288.out)⟩; clear HO293 BK288 HB hq_; have HO293 := n0_; have BK288 := n1_; have HB := n2_; clear n0_ n1_ n2_))) | ((with_reducible refine gd 14 ?_); (try (refine gate_guard (by rfl) ?_; dsimp only)); refine bE 14 #[.int .i64 0, .string (⟨#[]⟩ : ByteArray), .slice none 0 0, .string (⟨#[]⟩ : ByteArray)] 31 ?_; intro gb302 hg w12 hbox hb; replace HO293 := ak (Kd.R_below (kr HO293.out) hb); have BK302 := ak hbox; have GW302 := gs hg (bl1 HB.out GE288.out); have GE302 := gs hg (bl1 HB.out GE288.out); replace HB := ak (below_step (bl1 HB.out GE288.out) hb); have NB288_302 := nl hg BK288.out; have NB302_288 := ng hg BK288.out; replace BK288 := ak (blk_below (bk BK288.out) hb); clear hb hbox hg; have hnb13 := NB302_288.out; have hnc13 := NB288_302.out; obtain ⟨hcz14_0, hcz14_1, hcz14_2, hcz14_3, hfz14_0, hfz14_1, hfz14_2, hfz14_3⟩ := b4 BK302.out))
   (try simp only [Act.put, List.setIfInBounds_toArray, List.set_cons_zero, List.set_cons_succ])
   go_cut [72] (fun v72 wc => ∃ (kq : Nat) (x72_7 : Bool), v72 = .bool x72_7 ∧ Aside0 (spec_TakeResponse.j0 kq a0 t289 t290 x72_7 t301 t299 (⟨#[]⟩ : ByteArray) = some (r1, r2, r3, r4, r5, r6)) ∧ Aside0 (kq ≤ k) ∧ Aside0 (Kd.R Kd.string 9 wc w.heap.size (fun _ => True) (.slice (some ad294) t289.length co11) t289) ∧ Aside0 (wc.heap[gb288]? = some (.cells #[.int .i64 0, .string (⟨#[]⟩ : ByteArray), (.slice none 0 0), .string (⟨#[]⟩ : ByteArray)] 31 (0, 0))) ∧ Aside0 (wc.heap[gb302]? = some (.cells #[.int .i64 t301, .string t299, (.slice none 0 0), .string (⟨#[]⟩ : ByteArray)] 31 (0, 0))) ∧ Aside0 (Below w.heap.size w wc))
   case first =>
    have H := HC8.out
    clear HC8
    by_cases c15 : t297 = true
    ·subst c15
     rw [if_pos rfl] at H
     by_cases c16 : t300 = true
     ·subst c16
      rw [if_pos rfl] at H
      by_cases c17 : t295.toList = ([72, 84, 84, 80, 47, 49, 46, 49] : List UInt8)
      ·rw [if_pos c17] at H
       have c17b0 : (t295.toList == ([72, 84, 84, 80, 47, 49, 46, 49] : List UInt8)) = true := beq_iff_eq.mpr c17
       have c17b1 : (t295.toList != ([72, 84, 84, 80, 47, 49, 46, 49] : List UInt8)) = false := bne_eq_false_iff_eq.mpr c17
       clear c17
       (first | rw [c17b0] | (simp only [i64_w, i32_w]; rw [c17b0]) | skip)
       by_cases c18 : (t298.size : Int) = 3
       ·rw [if_pos c18] at H
        have c18b0 : ((t298.size : Int) == 3) = true := beq_iff_eq.mpr c18
        have c18b1 : ((t298.size : Int) != 3) = false := bne_eq_false_iff_eq.mpr c18
        clear c18
        replace H := bs H
        obtain ⟨t303, A19, H⟩ := H
        try dsimp only at H
        by_cases c20 : t303 = true
        ·subst c20
         rw [if_pos rfl] at H
         replace H := bs H
         obtain ⟨t304, A21, H⟩ := H
         try dsimp only at H
         have H' := ak H
         clear H
         have hnb22 := NB302_288.out
         have hnc22 := NB288_302.out
         obtain ⟨hcz23_0, hcz23_1, hcz23_2, hcz23_3, hfz23_0, hfz23_1, hfz23_2, hfz23_3⟩ := b4 BK302.out
         go_wp2_with (first | (go_at_call 38; (with_reducible refine (spec_l1In.calls t301 100 599 true _ A19.out).mono ?_); rintro e w' ⟨rfl, ⟨nd, rfl⟩⟩) | (go_at_call 39; (with_reducible refine (spec_l4Reason.calls k t299 t304 _ A21.out).mono ?_); rintro e w' ⟨rfl, ⟨nd, rfl⟩⟩))
         go_meet
         case rel => exact ⟨_, (!t304), (by first | rfl | (simp; done) | (simp [*]; done)), H', ⟨by first | omega | exact Nat.le_refl _⟩, ⟨by (with_reducible repeat (first | apply Kd.R_alloc | apply Kd.R_drewN | apply Kd.R_drew)); exact Kd.R_mono (Kd.R_far (p := ⟨gb302, 3, none⟩) (Kd.R_far (p := ⟨gb302, 2, none⟩) (Kd.R_far (p := ⟨gb302, 1, none⟩) (Kd.R_far (p := ⟨gb302, 0, none⟩) (Kd.R_types HO293.out BK302.out (by decide)) (fun _ hk => hk.2) (.int .i64 t301)) (fun _ hk => hk.2) (.string t299)) (fun _ hk => hk.2) (.slice none 0 0)) (fun _ hk => hk.2) (.string (⟨#[]⟩ : ByteArray))) (fun _ hk => trivial)⟩, ⟨by (with_reducible repeat (first | refine blk_drewN ?_ _ | refine blk_drew ?_ | refine blk_alloc ?_ _)); refine blk_far ?_ NB288_302.out _; (with_reducible repeat (first | refine blk_drewN ?_ _ | refine blk_drew ?_ | refine blk_alloc ?_ _)); refine blk_far ?_ NB288_302.out _; (with_reducible repeat (first | refine blk_drewN ?_ _ | refine blk_drew ?_ | refine blk_alloc ?_ _)); refine blk_far ?_ NB288_302.out _; (with_reducible repeat (first | refine blk_drewN ?_ _ | refine blk_drew ?_ | refine blk_alloc ?_ _)); refine blk_far ?_ NB288_302.out _; exact bk BK288.out⟩, ⟨by (with_reducible repeat (first | refine blk_drewN ?_ _ | refine blk_drew ?_ | refine blk_alloc ?_ _)); refine blk_put (cs := #[.int .i64 t301, .string t299, .slice none 0 0, .string (⟨#[]⟩ : ByteArray)]) ?_ 3 _ rfl; (with_reducible repeat (first | refine blk_drewN ?_ _ | refine blk_drew ?_ | refine blk_alloc ?_ _)); refine blk_put (cs := #[.int .i64 t301, .string t299, .slice none 0 0, .string (⟨#[]⟩ : ByteArray)]) ?_ 2 _ rfl; (with_reducible repeat (first | refine blk_drewN ?_ _ | refine blk_drew ?_ | refine blk_alloc ?_ _)); refine blk_put (cs := #[.int .i64 t301, .string (⟨#[]⟩ : ByteArray), .slice none 0 0, .string (⟨#[]⟩ : ByteArray)]) ?_ 1 _ rfl; (with_reducible repeat (first | refine blk_drewN ?_ _ | refine blk_drew ?_ | refine blk_alloc ?_ _)); refine blk_put (cs := #[.int .i64 0, .string (⟨#[]⟩ : ByteArray), .slice none 0 0, .string (⟨#[]⟩ : ByteArray)]) ?_ 0 _ rfl; exact bk BK302.out⟩, ⟨bl2 HB.out GE288.out GE302.out⟩⟩
        ·replace c20 := Bool.eq_false_iff.mpr c20
         subst c20
         rw [if_neg ff] at H
         have H' := ak H
         clear H
         have hnb24 := NB302_288.out
         have hnc24 := NB288_302.out
         obtain ⟨hcz25_0, hcz25_1, hcz25_2, hcz25_3, hfz25_0, hfz25_1, hfz25_2, hfz25_3⟩ := b4 BK302.out
         go_wp2_with (first | (go_at_call 38; (with_reducible refine (spec_l1In.calls t301 100 599 false _ A19.out).mono ?_); rintro e w' ⟨rfl, ⟨nd, rfl⟩⟩))
         go_meet
         case rel => exact ⟨_, (true), (by first | rfl | (simp; done) | (simp [*]; done)), H', ⟨by first | omega | exact Nat.le_refl _⟩, ⟨by (with_reducible repeat (first | apply Kd.R_alloc | apply Kd.R_drewN | apply Kd.R_drew)); exact Kd.R_mono (Kd.R_far (p := ⟨gb302, 3, none⟩) (Kd.R_far (p := ⟨gb302, 2, none⟩) (Kd.R_far (p := ⟨gb302, 1, none⟩) (Kd.R_far (p := ⟨gb302, 0, none⟩) (Kd.R_types HO293.out BK302.out (by decide)) (fun _ hk => hk.2) (.int .i64 t301)) (fun _ hk => hk.2) (.string t299)) (fun _ hk => hk.2) (.slice none 0 0)) (fun _ hk => hk.2) (.string (⟨#[]⟩ : ByteArray))) (fun _ hk => trivial)⟩, ⟨by (with_reducible repeat (first | refine blk_drewN ?_ _ | refine blk_drew ?_ | refine blk_alloc ?_ _)); refine blk_far ?_ NB288_302.out _; (with_reducible repeat (first | refine blk_drewN ?_ _ | refine blk_drew ?_ | refine blk_alloc ?_ _)); refine blk_far ?_ NB288_302.out _; (with_reducible repeat (first | refine blk_drewN ?_ _ | refine blk_drew ?_ | refine blk_alloc ?_ _)); refine blk_far ?_ NB288_302.out _; (with_reducible repeat (first | refine blk_drewN ?_ _ | refine blk_drew ?_ | refine blk_alloc ?_ _)); refine blk_far ?_ NB288_302.out _; exact bk BK288.out⟩, ⟨by (with_reducible repeat (first | refine blk_drewN ?_ _ | refine blk_drew ?_ | refine blk_alloc ?_ _)); refine blk_put (cs := #[.int .i64 t301, .string t299, .slice none 0 0, .string (⟨#[]⟩ : ByteArray)]) ?_ 3 _ rfl; (with_reducible repeat (first | refine blk_drewN ?_ _ | refine blk_drew ?_ | refine blk_alloc ?_ _)); refine blk_put (cs := #[.int .i64 t301, .string t299, .slice none 0 0, .string (⟨#[]⟩ : ByteArray)]) ?_ 2 _ rfl; (with_reducible repeat (first | refine blk_drewN ?_ _ | refine blk_drew ?_ | refine blk_alloc ?_ _)); refine blk_put (cs := #[.int .i64 t301, .string (⟨#[]⟩ : ByteArray), .slice none 0 0, .string (⟨#[]⟩ : ByteArray)]) ?_ 1 _ rfl; (with_reducible repeat (first | refine blk_drewN ?_ _ | refine blk_drew ?_ | refine blk_alloc ?_ _)); refine blk_put (cs := #[.int .i64 0, .string (⟨#[]⟩ : ByteArray), .slice none 0 0, .string (⟨#[]⟩ : ByteArray)]) ?_ 0 _ rfl; exact bk BK302.out⟩, ⟨bl2 HB.out GE288.out GE302.out⟩⟩
       ·rw [if_neg c18] at H
        have c18b0 : ((t298.size : Int) == 3) = false := beq_eq_false_iff_ne.mpr c18
        have c18b1 : ((t298.size : Int) != 3) = true := bne_iff_ne.mpr c18
        have H' := ak H
        clear H
        go_wp2
        go_meet
        case rel => exact ⟨_, (true), (by first | rfl | (simp; done) | (simp [*]; done)), H', ⟨by first | omega | exact Nat.le_refl _⟩, ⟨by (with_reducible repeat (first | apply Kd.R_alloc | apply Kd.R_drewN | apply Kd.R_drew)); exact Kd.R_mono (Kd.R_far (p := ⟨gb302, 3, none⟩) (Kd.R_far (p := ⟨gb302, 2, none⟩) (Kd.R_far (p := ⟨gb302, 1, none⟩) (Kd.R_far (p := ⟨gb302, 0, none⟩) (Kd.R_types HO293.out BK302.out (by decide)) (fun _ hk => hk.2) (.int .i64 t301)) (fun _ hk => hk.2) (.string t299)) (fun _ hk => hk.2) (.slice none 0 0)) (fun _ hk => hk.2) (.string (⟨#[]⟩ : ByteArray))) (fun _ hk => trivial)⟩, ⟨by (with_reducible repeat (first | refine blk_drewN ?_ _ | refine blk_drew ?_ | refine blk_alloc ?_ _)); refine blk_far ?_ NB288_302.out _; (with_reducible repeat (first | refine blk_drewN ?_ _ | refine blk_drew ?_ | refine blk_alloc ?_ _)); refine blk_far ?_ NB288_302.out _; (with_reducible repeat (first | refine blk_drewN ?_ _ | refine blk_drew ?_ | refine blk_alloc ?_ _)); refine blk_far ?_ NB288_302.out _; (with_reducible repeat (first | refine blk_drewN ?_ _ | refine blk_drew ?_ | refine blk_alloc ?_ _)); refine blk_far ?_ NB288_302.out _; exact bk BK288.out⟩, ⟨by (with_reducible repeat (first | refine blk_drewN ?_ _ | refine blk_drew ?_ | refine blk_alloc ?_ _)); refine blk_put (cs := #[.int .i64 t301, .string t299, .slice none 0 0, .string (⟨#[]⟩ : ByteArray)]) ?_ 3 _ rfl; (with_reducible repeat (first | refine blk_drewN ?_ _ | refine blk_drew ?_ | refine blk_alloc ?_ _)); refine blk_put (cs := #[.int .i64 t301, .string t299, .slice none 0 0, .string (⟨#[]⟩ : ByteArray)]) ?_ 2 _ rfl; (with_reducible repeat (first | refine blk_drewN ?_ _ | refine blk_drew ?_ | refine blk_alloc ?_ _)); refine blk_put (cs := #[.int .i64 t301, .string (⟨#[]⟩ : ByteArray), .slice none 0 0, .string (⟨#[]⟩ : ByteArray)]) ?_ 1 _ rfl; (with_reducible repeat (first | refine blk_drewN ?_ _ | refine blk_drew ?_ | refine blk_alloc ?_ _)); refine blk_put (cs := #[.int .i64 0, .string (⟨#[]⟩ : ByteArray), .slice none 0 0, .string (⟨#[]⟩ : ByteArray)]) ?_ 0 _ rfl; exact bk BK302.out⟩, ⟨bl2 HB.out GE288.out GE302.out⟩⟩
      ·rw [if_neg c17] at H
       have c17b0 : (t295.toList == ([72, 84, 84, 80, 47, 49, 46, 49] : List UInt8)) = false := beq_eq_false_iff_ne.mpr c17
       have c17b1 : (t295.toList != ([72, 84, 84, 80, 47, 49, 46, 49] : List UInt8)) = true := bne_iff_ne.mpr c17
       (first | rw [c17b0] | (simp only [i64_w, i32_w]; rw [c17b0]) | skip)
       have H' := ak H
       clear H
       go_wp2
       go_meet
       case rel => exact ⟨_, (true), (by first | rfl | (simp; done) | (simp [*]; done)), H', ⟨by first | omega | exact Nat.le_refl _⟩, ⟨by (with_reducible repeat (first | apply Kd.R_alloc | apply Kd.R_drewN | apply Kd.R_drew)); exact Kd.R_mono (Kd.R_far (p := ⟨gb302, 3, none⟩) (Kd.R_far (p := ⟨gb302, 2, none⟩) (Kd.R_far (p := ⟨gb302, 1, none⟩) (Kd.R_far (p := ⟨gb302, 0, none⟩) (Kd.R_types HO293.out BK302.out (by decide)) (fun _ hk => hk.2) (.int .i64 t301)) (fun _ hk => hk.2) (.string t299)) (fun _ hk => hk.2) (.slice none 0 0)) (fun _ hk => hk.2) (.string (⟨#[]⟩ : ByteArray))) (fun _ hk => trivial)⟩, ⟨by (with_reducible repeat (first | refine blk_drewN ?_ _ | refine blk_drew ?_ | refine blk_alloc ?_ _)); refine blk_far ?_ NB288_302.out _; (with_reducible repeat (first | refine blk_drewN ?_ _ | refine blk_drew ?_ | refine blk_alloc ?_ _)); refine blk_far ?_ NB288_302.out _; (with_reducible repeat (first | refine blk_drewN ?_ _ | refine blk_drew ?_ | refine blk_alloc ?_ _)); refine blk_far ?_ NB288_302.out _; (with_reducible repeat (first | refine blk_drewN ?_ _ | refine blk_drew ?_ | refine blk_alloc ?_ _)); refine blk_far ?_ NB288_302.out _; exact bk BK288.out⟩, ⟨by (with_reducible repeat (first | refine blk_drewN ?_ _ | refine blk_drew ?_ | refine blk_alloc ?_ _)); refine blk_put (cs := #[.int .i64 t301, .string t299, .slice none 0 0, .string (⟨#[]⟩ : ByteArray)]) ?_ 3 _ rfl; (with_reducible repeat (first | refine blk_drewN ?_ _ | refine blk_drew ?_ | refine blk_alloc ?_ _)); refine blk_put (cs := #[.int .i64 t301, .string t299, .slice none 0 0, .string (⟨#[]⟩ : ByteArray)]) ?_ 2 _ rfl; (with_reducible repeat (first | refine blk_drewN ?_ _ | refine blk_drew ?_ | refine blk_alloc ?_ _)); refine blk_put (cs := #[.int .i64 t301, .string (⟨#[]⟩ : ByteArray), .slice none 0 0, .string (⟨#[]⟩ : ByteArray)]) ?_ 1 _ rfl; (with_reducible repeat (first | refine blk_drewN ?_ _ | refine blk_drew ?_ | refine blk_alloc ?_ _)); refine blk_put (cs := #[.int .i64 0, .string (⟨#[]⟩ : ByteArray), .slice none 0 0, .string (⟨#[]⟩ : ByteArray)]) ?_ 0 _ rfl; exact bk BK302.out⟩, ⟨bl2 HB.out GE288.out GE302.out⟩⟩
     ·replace c16 := Bool.eq_false_iff.mpr c16
      subst c16
      rw [if_neg ff] at H
      have H' := ak H
      clear H
      go_wp2
      go_meet
      case rel => exact ⟨_, (true), (by first | rfl | (simp; done) | (simp [*]; done)), H', ⟨by first | omega | exact Nat.le_refl _⟩, ⟨by (with_reducible repeat (first | apply Kd.R_alloc | apply Kd.R_drewN | apply Kd.R_drew)); exact Kd.R_mono (Kd.R_far (p := ⟨gb302, 3, none⟩) (Kd.R_far (p := ⟨gb302, 2, none⟩) (Kd.R_far (p := ⟨gb302, 1, none⟩) (Kd.R_far (p := ⟨gb302, 0, none⟩) (Kd.R_types HO293.out BK302.out (by decide)) (fun _ hk => hk.2) (.int .i64 t301)) (fun _ hk => hk.2) (.string t299)) (fun _ hk => hk.2) (.slice none 0 0)) (fun _ hk => hk.2) (.string (⟨#[]⟩ : ByteArray))) (fun _ hk => trivial)⟩, ⟨by (with_reducible repeat (first | refine blk_drewN ?_ _ | refine blk_drew ?_ | refine blk_alloc ?_ _)); refine blk_far ?_ NB288_302.out _; (with_reducible repeat (first | refine blk_drewN ?_ _ | refine blk_drew ?_ | refine blk_alloc ?_ _)); refine blk_far ?_ NB288_302.out _; (with_reducible repeat (first | refine blk_drewN ?_ _ | refine blk_drew ?_ | refine blk_alloc ?_ _)); refine blk_far ?_ NB288_302.out _; (with_reducible repeat (first | refine blk_drewN ?_ _ | refine blk_drew ?_ | refine blk_alloc ?_ _)); refine blk_far ?_ NB288_302.out _; exact bk BK288.out⟩, ⟨by (with_reducible repeat (first | refine blk_drewN ?_ _ | refine blk_drew ?_ | refine blk_alloc ?_ _)); refine blk_put (cs := #[.int .i64 t301, .string t299, .slice none 0 0, .string (⟨#[]⟩ : ByteArray)]) ?_ 3 _ rfl; (with_reducible repeat (first | refine blk_drewN ?_ _ | refine blk_drew ?_ | refine blk_alloc ?_ _)); refine blk_put (cs := #[.int .i64 t301, .string t299, .slice none 0 0, .string (⟨#[]⟩ : ByteArray)]) ?_ 2 _ rfl; (with_reducible repeat (first | refine blk_drewN ?_ _ | refine blk_drew ?_ | refine blk_alloc ?_ _)); refine blk_put (cs := #[.int .i64 t301, .string (⟨#[]⟩ : ByteArray), .slice none 0 0, .string (⟨#[]⟩ : ByteArray)]) ?_ 1 _ rfl; (with_reducible repeat (first | refine blk_drewN ?_ _ | refine blk_drew ?_ | refine blk_alloc ?_ _)); refine blk_put (cs := #[.int .i64 0, .string (⟨#[]⟩ : ByteArray), .slice none 0 0, .string (⟨#[]⟩ : ByteArray)]) ?_ 0 _ rfl; exact bk BK302.out⟩, ⟨bl2 HB.out GE288.out GE302.out⟩⟩
    ·replace c15 := Bool.eq_false_iff.mpr c15
     subst c15
     rw [if_neg ff] at H
     have H' := ak H
     clear H
     go_wp2
     go_meet
     case rel => exact ⟨_, (true), (by first | rfl | (simp; done) | (simp [*]; done)), H', ⟨by first | omega | exact Nat.le_refl _⟩, ⟨by (with_reducible repeat (first | apply Kd.R_alloc | apply Kd.R_drewN | apply Kd.R_drew)); exact Kd.R_mono (Kd.R_far (p := ⟨gb302, 3, none⟩) (Kd.R_far (p := ⟨gb302, 2, none⟩) (Kd.R_far (p := ⟨gb302, 1, none⟩) (Kd.R_far (p := ⟨gb302, 0, none⟩) (Kd.R_types HO293.out BK302.out (by decide)) (fun _ hk => hk.2) (.int .i64 t301)) (fun _ hk => hk.2) (.string t299)) (fun _ hk => hk.2) (.slice none 0 0)) (fun _ hk => hk.2) (.string (⟨#[]⟩ : ByteArray))) (fun _ hk => trivial)⟩, ⟨by (with_reducible repeat (first | refine blk_drewN ?_ _ | refine blk_drew ?_ | refine blk_alloc ?_ _)); refine blk_far ?_ NB288_302.out _; (with_reducible repeat (first | refine blk_drewN ?_ _ | refine blk_drew ?_ | refine blk_alloc ?_ _)); refine blk_far ?_ NB288_302.out _; (with_reducible repeat (first | refine blk_drewN ?_ _ | refine blk_drew ?_ | refine blk_alloc ?_ _)); refine blk_far ?_ NB288_302.out _; (with_reducible repeat (first | refine blk_drewN ?_ _ | refine blk_drew ?_ | refine blk_alloc ?_ _)); refine blk_far ?_ NB288_302.out _; exact bk BK288.out⟩, ⟨by (with_reducible repeat (first | refine blk_drewN ?_ _ | refine blk_drew ?_ | refine blk_alloc ?_ _)); refine blk_put (cs := #[.int .i64 t301, .string t299, .slice none 0 0, .string (⟨#[]⟩ : ByteArray)]) ?_ 3 _ rfl; (with_reducible repeat (first | refine blk_drewN ?_ _ | refine blk_drew ?_ | refine blk_alloc ?_ _)); refine blk_put (cs := #[.int .i64 t301, .string t299, .slice none 0 0, .string (⟨#[]⟩ : ByteArray)]) ?_ 2 _ rfl; (with_reducible repeat (first | refine blk_drewN ?_ _ | refine blk_drew ?_ | refine blk_alloc ?_ _)); refine blk_put (cs := #[.int .i64 t301, .string (⟨#[]⟩ : ByteArray), .slice none 0 0, .string (⟨#[]⟩ : ByteArray)]) ?_ 1 _ rfl; (with_reducible repeat (first | refine blk_drewN ?_ _ | refine blk_drew ?_ | refine blk_alloc ?_ _)); refine blk_put (cs := #[.int .i64 0, .string (⟨#[]⟩ : ByteArray), .slice none 0 0, .string (⟨#[]⟩ : ByteArray)]) ?_ 0 _ rfl; exact bk BK302.out⟩, ⟨bl2 HB.out GE288.out GE302.out⟩⟩
   case rest =>
    clear HC8
    try clear c1
    try clear c2
    try clear p2
    try clear q2
    try clear hx2
    try clear qi2
    try clear c3
    try clear c3b0
    try clear c3b1
    try clear c4
    try clear c4b0
    try clear c4b1
    try clear c11
    try clear c13
    try clear c15
    try clear c16
    try clear c17
    try clear c17b0
    try clear c17b1
    try clear c18
    try clear c18b0
    try clear c18b1
    try clear c20
    try clear c22
    try clear c24
    try clear c25
    try clear hcz14_0
    try clear hcz14_1
    try clear hcz14_2
    try clear hcz14_3
    try clear hcz23_0
    try clear hcz23_1
    try clear hcz23_2
    try clear hcz23_3
    try clear hcz25_0
    try clear hcz25_1
    try clear hcz25_2
    try clear hcz25_3
    try clear hfz14_0
    try clear hfz14_1
    try clear hfz14_2
    try clear hfz14_3
    try clear hfz23_0
    try clear hfz23_1
    try clear hfz23_2
    try clear hfz23_3
    try clear hfz25_0
    try clear hfz25_1
    try clear hfz25_2
    try clear hfz25_3
    try clear hx294_0
    try clear p294
    try clear q294
    obtain ⟨kq, x72_7, rfl, HA, HJ7, HO_5, BK288, BK302, HB⟩ := hcut
    cases kq with
    | zero => exact absurd HA.out (by simp [spec_TakeResponse.j0])
    | succ kj7 =>
     have H := HA.out
     clear HA
     simp only [spec_TakeResponse.j0] at H
     by_cases c26 : x72_7 = true
     ·subst c26
      rw [if_pos rfl] at H
      simp only [Option.some.injEq, Prod.mk.injEq] at H
      obtain ⟨rfl, rfl, rfl, rfl, rfl, rfl⟩ := H
      have hnb27 := NB288_302.out
      have hnc27 := NB302_288.out
      obtain ⟨hcz28_0, hcz28_1, hcz28_2, hcz28_3, hfz28_0, hfz28_1, hfz28_2, hfz28_3⟩ := b4 BK288.out
      go_wp2
      refine bodyPost_ret (results_ctt rfl _ _ gb288 31 #[.int .i64 0, .string (⟨#[]⟩ : ByteArray), .slice none 0 0, .string (⟨#[]⟩ : ByteArray)] (0, 0) _ rfl (bq BK288.out) Tryz.underlying31 rfl (by kernel_rfl)) rfl ?_
      exact ⟨_, by first | rfl | (simp [errW_none, errW_some] <;> rfl) | (simp [*, errW_none, errW_some] <;> rfl), by first | exact Kd.R_nil _ _ _ _ _ | exact Kd.N_nil _ _ _ _ _ | exact Kd.V_nil _ _ _ _ _ | exact Kd.Q_nil _ _ _ _ _ | exact Kd.S_nil _ _ _ _ _, bl2 HB.out GE288.out GE302.out⟩
     ·replace c26 := Bool.eq_false_iff.mpr c26
      subst c26
      rw [if_neg ff] at H
      by_cases c29 : 1 ≤ (t289.length : Int)
      ·rw [if_pos c29] at H
       have c29b0 := eq_true c29
       have c29b1 : decide (1 ≤ (t289.length : Int)) = true := decide_eq_true c29
       clear c29
       obtain ⟨y305, hy305⟩ : ∃ y_ : List ByteArray, y_ = (t289.drop 1) := ⟨_, rfl⟩
       replace H : ((spec_l4Rest.f kj7 a0 y305 t290).bind fun bt309 => (if bt309.2.2.2 = 0 then ((spec_GoodResponse.f kj7 t301 t299 bt309.1 bt309.2.1).bind fun t315 => (if t315 = true then (some (t301, t299, bt309.1, bt309.2.1, bt309.2.2.1, 0)) else (some (0, (⟨#[]⟩ : ByteArray), ([] : List (S75)), (⟨#[]⟩ : ByteArray), 0, 5)))) else (some (0, (⟨#[]⟩ : ByteArray), ([] : List (S75)), (⟨#[]⟩ : ByteArray), 0, bt309.2.2.2)))) = some (r1, r2, r3, r4, r5, r6) := by first | (rw [hy305]; with_reducible exact H) | (have H2_ := (Option.bind_some _ _).symm.trans H; rw [hy305]; with_reducible exact H2_) | (have H2_ := (Option.bind_some _ _).symm.trans H; with_reducible exact H2_) | with_reducible exact H | (rw [hy305]; exact H) | exact H
       have Ny305 := ak hy305
       clear hy305
       replace H := bs H
       obtain ⟨⟨t309, t310, t311, t312⟩, A30, H⟩ := H
       try dsimp only at H
       by_cases c31 : t312 = 0
       ·rw [if_pos c31] at H
        have c31b0 : (t312 == 0) = true := beq_iff_eq.mpr c31
        have c31b1 : (t312 != 0) = false := bne_eq_false_iff_eq.mpr c31
        clear c31
        replace H := bs H
        obtain ⟨t315, A32, H⟩ := H
        try dsimp only at H
        by_cases c33 : t315 = true
        ·subst c33
         rw [if_pos rfl] at H
         simp only [Option.some.injEq, Prod.mk.injEq] at H
         obtain ⟨rfl, rfl, rfl, rfl, rfl, rfl⟩ := H
         have q34 : (1 : Int) ≤ ((t289.length : Int) : Int) := od
         obtain ⟨i034, hi034, _, hsz34, _⟩ := info_parts info9
         have hroom34 : t289.length ≤ co11 := (Kd.R_reads' HO_5.out).2.1
         have hC34 : Kd.C Kd.string _ (some ad294) t289.length t289 := (Kd.R_reads' HO_5.out).2.2
         have hcut34 := cut_from (P := Tryz.prog) 43 9 .i64 Tryz.underlying43 hi034 1 hsz34 (some ad294) t289.length co11 1 (by omega) q34
         have hr34 := Kd.C_drop (m := (1 : Int).toNat) (c := co11) hC34 (by omega) hroom34
         obtain ⟨A34, hA34⟩ : ∃ A1, A1 = (if co11 = (1 : Int).toNat then (some ad294) else ((some ad294) : Option Addr).map (·.add ((1 : Int).toNat * 1))) := ⟨_, rfl⟩
         obtain ⟨c34, hc34⟩ : ∃ c1, c1 = co11 - (1 : Int).toNat := ⟨_, rfl⟩
         have hy34 : y305.length = t289.length - (1 : Int).toNat := (by rw [Ny305.out, List.length_drop] <;> omega)
         rw [show (t289).drop (1 : Int).toNat = y305 from Ny305.out.symm] at hr34
         replace hr34 : Kd.C Kd.string _ A34 y305.length y305 := (by rw [hA34]; exact hr34)
         rw [← hy34, ← hA34, ← hc34] at hcut34
         have HR308 := ak hr34
         have HC308 := ak (show y305.length ≤ c34 from by rw [hy34, hc34]; exact Nat.sub_le_sub_right hroom34 _)
         clear hr34 hC34 hroom34 hi034 hsz34 hc34
         have KY34 := ak hy34
         have KA34 := ak hA34
         clear hy34 hA34
         have KL34 := ak (show 1 ≤ t289.length from by omega)
         replace q34 := eq_true q34
         go_wp2_with (first | ((with_reducible refine gc 28 ?_); refine gL 28 Tryz.func28 (some 79) #[.string a0, .slice A34 y305.length c34, .int .i64 t290] ?_; (with_reducible refine (spec_l4Rest.calls kj7 a0 _ _ y305 t290 t309 t310 t311 t312 _ ?side1 ?side2 A30.out).mono ?_); (case side1 => repeat (first | exact (by repeat (first | (with_reducible exact HR308.out) | (with_reducible refine Kd.C_alloc ?_ _) | (with_reducible refine Kd.C_drewN ?_ _) | (with_reducible refine Kd.C_drew ?_) | exact HR308.out)) | (with_reducible refine Kd.C_alloc ?_ _) | (with_reducible refine Kd.C_drewN ?_ _) | (with_reducible refine Kd.C_drew ?_))); (case side2 => exact HC308.out); rintro e w35 ⟨v313, rfl, ho0, hb⟩; refine ⟨_, rfl, ?_⟩; replace HO_5 := ak (Kd.R_below (kr HO_5.out) hb); have HO314 := ak (Kd.R_lower ho0 (below_size (bl2 HB.out GE288.out GE302.out))); replace BK288 := ak (blk_below (bk BK288.out) hb); replace BK302 := ak (blk_below (bk BK302.out) hb); replace HR308 := ak (Kd.C_below (by repeat (first | (with_reducible exact HR308.out) | (with_reducible refine Kd.C_alloc ?_ _) | (with_reducible refine Kd.C_drewN ?_ _) | (with_reducible refine Kd.C_drew ?_) | exact HR308.out)) hb); replace HB := ak (below_step (bl2 HB.out GE288.out GE302.out) hb); clear hb ho0; obtain ⟨Ao36, co36, eo36⟩ := Kd.R_slice HO314.out; subst eo36; have hnb37 := NB302_288.out; have hnc37 := NB288_302.out; obtain ⟨hcz38_0, hcz38_1, hcz38_2, hcz38_3, hfz38_0, hfz38_1, hfz38_2, hfz38_3⟩ := b4 BK302.out) | ((with_reducible refine gc 40 ?_); refine gL 40 Tryz.func40 (some 93) #[.agg #[.int .i64 t301, .string t299, .slice Ao36 t309.length co36, .string t310]] ?_; (with_reducible refine (spec_GoodResponse.calls kj7 t301 t299 _ _ t309 t310 true _ ?side1 ?side2 A32.out).mono ?_); (case side1 => refine (Kd.R_reads' (e := 75) (base := w.heap.size) (ok := fun k_ => True) (n := t309.length) (c := co36) ?_).2.2; exact (by (with_reducible repeat (first | apply Kd.R_alloc | apply Kd.R_drewN | apply Kd.R_drew)); exact (Kd.R_mono (Kd.R_far (p := ⟨gb302, 3, none⟩) (Kd.R_far (p := ⟨gb302, 2, none⟩) (Kd.R_types HO314.out BK302.out (by decide)) (fun _ hk => hk.2) (.slice Ao36 t309.length co36)) (fun _ hk => hk.2) (.string t310)) (fun _ h_ => h_.1)))); (case side2 => exact (Kd.R_reads' HO314.out).2.1); rintro e w39 ⟨rfl, hb⟩; refine ⟨_, rfl, ?_⟩; replace HO_5 := ak (Kd.R_below (by (with_reducible repeat (first | apply Kd.R_alloc | apply Kd.R_drewN | apply Kd.R_drew)); exact (Kd.R_mono (Kd.R_far (p := ⟨gb302, 3, none⟩) (Kd.R_far (p := ⟨gb302, 2, none⟩) (Kd.R_types HO_5.out BK302.out (by decide)) (fun _ hk => hk.2) (.slice Ao36 t309.length co36)) (fun _ hk => hk.2) (.string t310)) (fun _ h_ => h_.1))) hb); replace HO314 := ak (Kd.R_below (by (with_reducible repeat (first | apply Kd.R_alloc | apply Kd.R_drewN | apply Kd.R_drew)); exact (Kd.R_mono (Kd.R_far (p := ⟨gb302, 3, none⟩) (Kd.R_far (p := ⟨gb302, 2, none⟩) (Kd.R_types HO314.out BK302.out (by decide)) (fun _ hk => hk.2) (.slice Ao36 t309.length co36)) (fun _ hk => hk.2) (.string t310)) (fun _ h_ => h_.1))) hb); replace BK288 := ak (blk_below (g := gb288) (o := .cells #[.int .i64 0, .string (⟨#[]⟩ : ByteArray), .slice none 0 0, .string (⟨#[]⟩ : ByteArray)] 31 (0, 0)) (bq BK288.out) hb); replace BK302 := ak (blk_below (g := gb302) (o := .cells #[.int .i64 t301, .string t299, .slice Ao36 t309.length co36, .string t310] 31 (0, 0)) (bq BK302.out) hb); replace HB := ak (below_step (bl2 HB.out GE288.out GE302.out) hb); clear hb; obtain ⟨hcz40_0, hcz40_1, hcz40_2, hcz40_3, hfz40_0, hfz40_1, hfz40_2, hfz40_3⟩ := b4 BK302.out; obtain ⟨hcz41_0, hcz41_1, hcz41_2, hcz41_3, hfz41_0, hfz41_1, hfz41_2, hfz41_3⟩ := b4 BK288.out))
         refine bodyPost_ret (results_ctt rfl _ _ gb288 31 #[.int .i64 t301, .string t299, .slice Ao36 t309.length co36, .string t310] (0, 0) _ rfl (bq BK288.out) Tryz.underlying31 rfl (by kernel_rfl)) rfl ?_
         exact ⟨_, by first | rfl | (simp [errW_none, errW_some] <;> rfl) | (simp [*, errW_none, errW_some] <;> rfl), by (with_reducible repeat (first | apply Kd.R_alloc | apply Kd.R_drewN | apply Kd.R_drew)); exact Kd.R_mono (Kd.R_far (p := ⟨gb288, 3, none⟩) (Kd.R_far (p := ⟨gb288, 2, none⟩) (Kd.R_far (p := ⟨gb288, 1, none⟩) (Kd.R_far (p := ⟨gb288, 0, none⟩) (Kd.R_types HO314.out BK288.out (by decide)) (fun _ hk => hk.2) (.int .i64 t301)) (fun _ hk => hk.2) (.string t299)) (fun _ hk => hk.2) (.slice Ao36 t309.length co36)) (fun _ hk => hk.2) (.string t310)) (fun _ hk => trivial), bl2 HB.out GE288.out GE302.out⟩
        ·replace c33 := Bool.eq_false_iff.mpr c33
         subst c33
         rw [if_neg ff] at H
         simp only [Option.some.injEq, Prod.mk.injEq] at H
         obtain ⟨rfl, rfl, rfl, rfl, rfl, rfl⟩ := H
         have q42 : (1 : Int) ≤ ((t289.length : Int) : Int) := od
         obtain ⟨i042, hi042, _, hsz42, _⟩ := info_parts info9
         have hroom42 : t289.length ≤ co11 := (Kd.R_reads' HO_5.out).2.1
         have hC42 : Kd.C Kd.string _ (some ad294) t289.length t289 := (Kd.R_reads' HO_5.out).2.2
         have hcut42 := cut_from (P := Tryz.prog) 43 9 .i64 Tryz.underlying43 hi042 1 hsz42 (some ad294) t289.length co11 1 (by omega) q42
         have hr42 := Kd.C_drop (m := (1 : Int).toNat) (c := co11) hC42 (by omega) hroom42
         obtain ⟨A42, hA42⟩ : ∃ A1, A1 = (if co11 = (1 : Int).toNat then (some ad294) else ((some ad294) : Option Addr).map (·.add ((1 : Int).toNat * 1))) := ⟨_, rfl⟩
         obtain ⟨c42, hc42⟩ : ∃ c1, c1 = co11 - (1 : Int).toNat := ⟨_, rfl⟩
         have hy42 : y305.length = t289.length - (1 : Int).toNat := (by rw [Ny305.out, List.length_drop] <;> omega)
         rw [show (t289).drop (1 : Int).toNat = y305 from Ny305.out.symm] at hr42
         replace hr42 : Kd.C Kd.string _ A42 y305.length y305 := (by rw [hA42]; exact hr42)
         rw [← hy42, ← hA42, ← hc42] at hcut42
         have HR308 := ak hr42
         have HC308 := ak (show y305.length ≤ c42 from by rw [hy42, hc42]; exact Nat.sub_le_sub_right hroom42 _)
         clear hr42 hC42 hroom42 hi042 hsz42 hc42
         have KY42 := ak hy42
         have KA42 := ak hA42
         clear hy42 hA42
         have KL42 := ak (show 1 ≤ t289.length from by omega)
         replace q42 := eq_true q42
         go_wp2_with (first | ((with_reducible refine gc 28 ?_); refine gL 28 Tryz.func28 (some 79) #[.string a0, .slice A42 y305.length c42, .int .i64 t290] ?_; (with_reducible refine (spec_l4Rest.calls kj7 a0 _ _ y305 t290 t309 t310 t311 t312 _ ?side1 ?side2 A30.out).mono ?_); (case side1 => repeat (first | exact (by repeat (first | (with_reducible exact HR308.out) | (with_reducible refine Kd.C_alloc ?_ _) | (with_reducible refine Kd.C_drewN ?_ _) | (with_reducible refine Kd.C_drew ?_) | exact HR308.out)) | (with_reducible refine Kd.C_alloc ?_ _) | (with_reducible refine Kd.C_drewN ?_ _) | (with_reducible refine Kd.C_drew ?_))); (case side2 => exact HC308.out); rintro e w43 ⟨v313, rfl, ho0, hb⟩; refine ⟨_, rfl, ?_⟩; replace HO_5 := ak (Kd.R_below (kr HO_5.out) hb); have HO314 := ak (Kd.R_lower ho0 (below_size (bl2 HB.out GE288.out GE302.out))); replace BK288 := ak (blk_below (bk BK288.out) hb); replace BK302 := ak (blk_below (bk BK302.out) hb); replace HR308 := ak (Kd.C_below (by repeat (first | (with_reducible exact HR308.out) | (with_reducible refine Kd.C_alloc ?_ _) | (with_reducible refine Kd.C_drewN ?_ _) | (with_reducible refine Kd.C_drew ?_) | exact HR308.out)) hb); replace HB := ak (below_step (bl2 HB.out GE288.out GE302.out) hb); clear hb ho0; obtain ⟨Ao44, co44, eo44⟩ := Kd.R_slice HO314.out; subst eo44; have hnb45 := NB302_288.out; have hnc45 := NB288_302.out; obtain ⟨hcz46_0, hcz46_1, hcz46_2, hcz46_3, hfz46_0, hfz46_1, hfz46_2, hfz46_3⟩ := b4 BK302.out) | ((with_reducible refine gc 40 ?_); refine gL 40 Tryz.func40 (some 93) #[.agg #[.int .i64 t301, .string t299, .slice Ao44 t309.length co44, .string t310]] ?_; (with_reducible refine (spec_GoodResponse.calls kj7 t301 t299 _ _ t309 t310 false _ ?side1 ?side2 A32.out).mono ?_); (case side1 => refine (Kd.R_reads' (e := 75) (base := w.heap.size) (ok := fun k_ => True) (n := t309.length) (c := co44) ?_).2.2; exact (by (with_reducible repeat (first | apply Kd.R_alloc | apply Kd.R_drewN | apply Kd.R_drew)); exact (Kd.R_mono (Kd.R_far (p := ⟨gb302, 3, none⟩) (Kd.R_far (p := ⟨gb302, 2, none⟩) (Kd.R_types HO314.out BK302.out (by decide)) (fun _ hk => hk.2) (.slice Ao44 t309.length co44)) (fun _ hk => hk.2) (.string t310)) (fun _ h_ => h_.1)))); (case side2 => exact (Kd.R_reads' HO314.out).2.1); rintro e w47 ⟨rfl, hb⟩; refine ⟨_, rfl, ?_⟩; replace HO_5 := ak (Kd.R_below (by (with_reducible repeat (first | apply Kd.R_alloc | apply Kd.R_drewN | apply Kd.R_drew)); exact (Kd.R_mono (Kd.R_far (p := ⟨gb302, 3, none⟩) (Kd.R_far (p := ⟨gb302, 2, none⟩) (Kd.R_types HO_5.out BK302.out (by decide)) (fun _ hk => hk.2) (.slice Ao44 t309.length co44)) (fun _ hk => hk.2) (.string t310)) (fun _ h_ => h_.1))) hb); replace HO314 := ak (Kd.R_below (by (with_reducible repeat (first | apply Kd.R_alloc | apply Kd.R_drewN | apply Kd.R_drew)); exact (Kd.R_mono (Kd.R_far (p := ⟨gb302, 3, none⟩) (Kd.R_far (p := ⟨gb302, 2, none⟩) (Kd.R_types HO314.out BK302.out (by decide)) (fun _ hk => hk.2) (.slice Ao44 t309.length co44)) (fun _ hk => hk.2) (.string t310)) (fun _ h_ => h_.1))) hb); replace BK288 := ak (blk_below (g := gb288) (o := .cells #[.int .i64 0, .string (⟨#[]⟩ : ByteArray), .slice none 0 0, .string (⟨#[]⟩ : ByteArray)] 31 (0, 0)) (bq BK288.out) hb); replace BK302 := ak (blk_below (g := gb302) (o := .cells #[.int .i64 t301, .string t299, .slice Ao44 t309.length co44, .string t310] 31 (0, 0)) (bq BK302.out) hb); replace HB := ak (below_step (bl2 HB.out GE288.out GE302.out) hb); clear hb; obtain ⟨hcz48_0, hcz48_1, hcz48_2, hcz48_3, hfz48_0, hfz48_1, hfz48_2, hfz48_3⟩ := b4 BK288.out))
         refine bodyPost_ret (results_ctt rfl _ _ gb288 31 #[.int .i64 0, .string (⟨#[]⟩ : ByteArray), .slice none 0 0, .string (⟨#[]⟩ : ByteArray)] (0, 0) _ rfl (bq BK288.out) Tryz.underlying31 rfl (by kernel_rfl)) rfl ?_
         exact ⟨_, by first | rfl | (simp [errW_none, errW_some] <;> rfl) | (simp [*, errW_none, errW_some] <;> rfl), by first | exact Kd.R_nil _ _ _ _ _ | exact Kd.N_nil _ _ _ _ _ | exact Kd.V_nil _ _ _ _ _ | exact Kd.Q_nil _ _ _ _ _ | exact Kd.S_nil _ _ _ _ _, bl2 HB.out GE288.out GE302.out⟩
       ·rw [if_neg c31] at H
        have c31b0 : (t312 == 0) = false := beq_eq_false_iff_ne.mpr c31
        have c31b1 : (t312 != 0) = true := bne_iff_ne.mpr c31
        simp only [Option.some.injEq, Prod.mk.injEq] at H
        obtain ⟨rfl, rfl, rfl, rfl, rfl, rfl⟩ := H
        have q49 : (1 : Int) ≤ ((t289.length : Int) : Int) := od
        obtain ⟨i049, hi049, _, hsz49, _⟩ := info_parts info9
        have hroom49 : t289.length ≤ co11 := (Kd.R_reads' HO_5.out).2.1
        have hC49 : Kd.C Kd.string _ (some ad294) t289.length t289 := (Kd.R_reads' HO_5.out).2.2
        have hcut49 := cut_from (P := Tryz.prog) 43 9 .i64 Tryz.underlying43 hi049 1 hsz49 (some ad294) t289.length co11 1 (by omega) q49
        have hr49 := Kd.C_drop (m := (1 : Int).toNat) (c := co11) hC49 (by omega) hroom49
        obtain ⟨A49, hA49⟩ : ∃ A1, A1 = (if co11 = (1 : Int).toNat then (some ad294) else ((some ad294) : Option Addr).map (·.add ((1 : Int).toNat * 1))) := ⟨_, rfl⟩
        obtain ⟨c49, hc49⟩ : ∃ c1, c1 = co11 - (1 : Int).toNat := ⟨_, rfl⟩
        have hy49 : y305.length = t289.length - (1 : Int).toNat := (by rw [Ny305.out, List.length_drop] <;> omega)
        rw [show (t289).drop (1 : Int).toNat = y305 from Ny305.out.symm] at hr49
        replace hr49 : Kd.C Kd.string _ A49 y305.length y305 := (by rw [hA49]; exact hr49)
        rw [← hy49, ← hA49, ← hc49] at hcut49
        have HR308 := ak hr49
        have HC308 := ak (show y305.length ≤ c49 from by rw [hy49, hc49]; exact Nat.sub_le_sub_right hroom49 _)
        clear hr49 hC49 hroom49 hi049 hsz49 hc49
        have KY49 := ak hy49
        have KA49 := ak hA49
        clear hy49 hA49
        have KL49 := ak (show 1 ≤ t289.length from by omega)
        replace q49 := eq_true q49
        go_wp2_with (first | ((with_reducible refine gc 28 ?_); refine gL 28 Tryz.func28 (some 79) #[.string a0, .slice A49 y305.length c49, .int .i64 t290] ?_; (with_reducible refine (spec_l4Rest.calls kj7 a0 _ _ y305 t290 t309 t310 t311 t312 _ ?side1 ?side2 A30.out).mono ?_); (case side1 => repeat (first | exact (by repeat (first | (with_reducible exact HR308.out) | (with_reducible refine Kd.C_alloc ?_ _) | (with_reducible refine Kd.C_drewN ?_ _) | (with_reducible refine Kd.C_drew ?_) | exact HR308.out)) | (with_reducible refine Kd.C_alloc ?_ _) | (with_reducible refine Kd.C_drewN ?_ _) | (with_reducible refine Kd.C_drew ?_))); (case side2 => exact HC308.out); rintro e w50 ⟨v313, rfl, ho0, hb⟩; refine ⟨_, rfl, ?_⟩; replace HO_5 := ak (Kd.R_below (kr HO_5.out) hb); have HO314 := ak (Kd.R_lower ho0 (below_size (bl2 HB.out GE288.out GE302.out))); replace BK288 := ak (blk_below (bk BK288.out) hb); replace BK302 := ak (blk_below (bk BK302.out) hb); replace HR308 := ak (Kd.C_below (by repeat (first | (with_reducible exact HR308.out) | (with_reducible refine Kd.C_alloc ?_ _) | (with_reducible refine Kd.C_drewN ?_ _) | (with_reducible refine Kd.C_drew ?_) | exact HR308.out)) hb); replace HB := ak (below_step (bl2 HB.out GE288.out GE302.out) hb); clear hb ho0; have hnb51 := NB288_302.out; have hnc51 := NB302_288.out; obtain ⟨hcz52_0, hcz52_1, hcz52_2, hcz52_3, hfz52_0, hfz52_1, hfz52_2, hfz52_3⟩ := b4 BK288.out))
        refine bodyPost_ret (results_ctt rfl _ _ gb288 31 #[.int .i64 0, .string (⟨#[]⟩ : ByteArray), .slice none 0 0, .string (⟨#[]⟩ : ByteArray)] (0, 0) _ rfl (bq BK288.out) Tryz.underlying31 rfl (by kernel_rfl)) rfl ?_
        exact ⟨_, by first | rfl | (simp [errW_none, errW_some] <;> rfl) | (simp [*, errW_none, errW_some] <;> rfl), by first | exact Kd.R_nil _ _ _ _ _ | exact Kd.N_nil _ _ _ _ _ | exact Kd.V_nil _ _ _ _ _ | exact Kd.Q_nil _ _ _ _ _ | exact Kd.S_nil _ _ _ _ _, bl2 HB.out GE288.out GE302.out⟩
      ·rw [if_neg c29] at H
       exact absurd H (by simp)
  ·rw [if_neg c4] at H
   exact absurd H (by simp)
 ·rw [if_neg c3] at H
  have c3b0 : (t291 == 0) = false := beq_eq_false_iff_ne.mpr c3
  have c3b1 : (t291 != 0) = true := bne_iff_ne.mpr c3
  simp only [Option.some.injEq, Prod.mk.injEq] at H
  obtain ⟨rfl, rfl, rfl, rfl, rfl, rfl⟩ := H
  go_enter Tryz.func11, Tryz.ntmps11
  go_wp2_with (first | ((with_reducible refine gd 2 ?_); (try (refine gate_guard (by rfl) ?_; dsimp only)); refine bE 2 #[.int .i64 0, .string (⟨#[]⟩ : ByteArray), .slice none 0 0, .string (⟨#[]⟩ : ByteArray)] 31 ?_; intro gb288 hg w53 hbox hb; have BK288 := ak hbox; have GW288 := gs hg (bl HB.out); have GE288 := gs hg (bl HB.out); replace HB := ak (below_step (bl HB.out) hb); clear hb hbox hg) | ((with_reducible refine gc 24 ?_); refine gL 24 Tryz.func24 (some 21) #[.string a0] ?_; (with_reducible refine (spec_l4Lines.calls k a0 t289 t290 t291 _ A2.out).mono ?_); rintro e w54 ⟨v292, rfl, ho0, hb⟩; refine ⟨_, rfl, ?_⟩; have HO293 := ak (Kd.R_lower ho0 (below_size (bl1 HB.out GE288.out))); replace BK288 := ak (blk_below (bk BK288.out) hb); replace HB := ak (below_step (bl1 HB.out GE288.out) hb); clear hb ho0; obtain ⟨hcz55_0, hcz55_1, hcz55_2, hcz55_3, hfz55_0, hfz55_1, hfz55_2, hfz55_3⟩ := b4 BK288.out))
  refine bodyPost_ret (results_ctt rfl _ _ gb288 31 #[.int .i64 0, .string (⟨#[]⟩ : ByteArray), .slice none 0 0, .string (⟨#[]⟩ : ByteArray)] (0, 0) _ rfl (bq BK288.out) Tryz.underlying31 rfl (by kernel_rfl)) rfl ?_
  exact ⟨_, by first | rfl | (simp [errW_none, errW_some] <;> rfl) | (simp [*, errW_none, errW_some] <;> rfl), by first | exact Kd.R_nil _ _ _ _ _ | exact Kd.N_nil _ _ _ _ _ | exact Kd.V_nil _ _ _ _ _ | exact Kd.Q_nil _ _ _ _ _ | exact Kd.S_nil _ _ _ _ _, bl1 HB.out GE288.out⟩

-- NOT PRINTED: function 107 (stringslite_HasPrefix)

-- NOT PRINTED: function 75 (stringslite_CutPrefix)

/-! ### strings_CutPrefix: function 42 -/
def strings_CutPrefix.f (a0 : ByteArray) (a1 : ByteArray) : Option (ByteArray × Bool) := some (⟨(Lib.trimPrefix a0.data.toList a1.data.toList).toArray⟩, Lib.hasPrefix a0.data.toList a1.data.toList)
theorem strings_CutPrefix.calls (a0 : ByteArray) (a1 : ByteArray) (r1 : ByteArray) (r2 : Bool) (w : World) (h : strings_CutPrefix.f a0 a1 = some (r1, r2)) :
  Calls Tryz.prog 42 #[.string a0, .string a1] w fun e w' => e = .returned (.tuple #[.string r1, .bool r2]) ∧ Below w.heap.size w w' := by
 unfold strings_CutPrefix.f at h
 have h := Option.some.inj h
 simp only [Prod.mk.injEq] at h
 obtain ⟨rfl, rfl⟩ := h
 exact trCutPrefix a0 a1 w


/-! ### impl_number: function 44 -/
def impl_number.f (a0 : ByteArray) : Option (Int × Bool) := (strconv_Atoi.f a0).bind fun bt316 => (if bt316.2.isNone = true then ((strconv_Itoa.f bt316.1).bind fun t319 => (if t319.toList = a0.toList then (some (bt316.1, decide (bt316.1 ≥ 0))) else (some (bt316.1, false)))) else (some (bt316.1, false)))
set_option maxHeartbeats 8000000 in
set_option maxRecDepth 100000 in
theorem impl_number.calls (a0 : ByteArray) (r1 : Int) (r2 : Bool) (w : World) (h : impl_number.f a0 = some (r1, r2)) (ht : Glob w) :
  Calls Tryz.prog 44 #[.string a0] w fun e w' => e = .returned (.tuple #[.int .i64 r1, .bool r2]) ∧ Below w.heap.size w w' := by
 have hu91 := Tryz.underlying91
 have HT := ak ht
 clear ht
 have HB := ak (Below.refl w.heap.size w)
 have H : ((strconv_Atoi.f a0).bind fun bt316 => (if bt316.2.isNone = true then ((strconv_Itoa.f bt316.1).bind fun t319 => (if t319.toList = a0.toList then (some (bt316.1, decide (bt316.1 ≥ 0))) else (some (bt316.1, false)))) else (some (bt316.1, false)))) = some (r1, r2) := h
 clear h
 replace H := bs H
 obtain ⟨⟨t316, t317⟩, A2, H⟩ := H
 try dsimp only at H
 rcases t317 with _ | q318
 ·rw [if_pos (show (none : Option Int).isNone = true by rfl)] at H
  try simp only [errW_none, errW_some, errV_none, errV_some]
  replace H := bs H
  obtain ⟨t319, A3, H⟩ := H
  try dsimp only at H
  by_cases c4 : t319.toList = a0.toList
  ·rw [if_pos c4] at H
   have c4b0 : (t319.toList == a0.toList) = true := beq_iff_eq.mpr c4
   have c4b1 : (t319.toList != a0.toList) = false := bne_eq_false_iff_eq.mpr c4
   clear c4
   simp only [Option.some.injEq, Prod.mk.injEq] at H
   obtain ⟨rfl, rfl⟩ := H
   go_enter Tryz.func44, Tryz.ntmps44
   go_wp2_with (first | ((with_reducible refine gc 77 ?_); refine gL 77 Tryz.func77 (some 8) #[.string a0] ?_; (with_reducible refine (strconv_Atoi.calls a0 t316 none _ A2.out (globg HT.out (bl HB.out))).mono ?_); rintro e w5 ⟨tp_, p_, rfl, hb⟩; refine ⟨_, rfl, ?_⟩; replace HB := ak (below_step (bl HB.out) hb); clear hb; (try simp only [errW_none, errW_some, errV_none, errV_some])) | (go_at_call 78; (with_reducible refine (strconv_Itoa.calls t316 t319 _ A3.out (globg HT.out (bl HB.out))).mono ?_); rintro e w6 ⟨rfl, hb⟩; replace HB := ak (below_step (bl HB.out) hb); clear hb))
   go_ret2
   exact ⟨by first | rfl | (simp [errW_none, errW_some, errV_none, errV_some] <;> rfl) | (simp [*, errW_none, errW_some] <;> rfl), bl HB.out⟩
  ·rw [if_neg c4] at H
   have c4b0 : (t319.toList == a0.toList) = false := beq_eq_false_iff_ne.mpr c4
   have c4b1 : (t319.toList != a0.toList) = true := bne_iff_ne.mpr c4
   simp only [Option.some.injEq, Prod.mk.injEq] at H
   obtain ⟨rfl, rfl⟩ := H
   go_enter Tryz.func44, Tryz.ntmps44
   go_wp2_with (first | ((with_reducible refine gc 77 ?_); refine gL 77 Tryz.func77 (some 8) #[.string a0] ?_; (with_reducible refine (strconv_Atoi.calls a0 t316 none _ A2.out (globg HT.out (bl HB.out))).mono ?_); rintro e w7 ⟨tp_, p_, rfl, hb⟩; refine ⟨_, rfl, ?_⟩; replace HB := ak (below_step (bl HB.out) hb); clear hb; (try simp only [errW_none, errW_some, errV_none, errV_some])) | (go_at_call 78; (with_reducible refine (strconv_Itoa.calls t316 t319 _ A3.out (globg HT.out (bl HB.out))).mono ?_); rintro e w8 ⟨rfl, hb⟩; replace HB := ak (below_step (bl HB.out) hb); clear hb))
   go_ret2
   exact ⟨by first | rfl | (simp [errW_none, errW_some, errV_none, errV_some] <;> rfl) | (simp [*, errW_none, errW_some] <;> rfl), bl HB.out⟩
 ·rw [if_neg (show ¬ (some q318).isNone = true by simp)] at H
  try simp only [errW_none, errW_some, errV_none, errV_some]
  simp only [Option.some.injEq, Prod.mk.injEq] at H
  obtain ⟨rfl, rfl⟩ := H
  go_enter Tryz.func44, Tryz.ntmps44
  go_wp2_with (first | ((with_reducible refine gc 77 ?_); refine gL 77 Tryz.func77 (some 8) #[.string a0] ?_; (with_reducible refine (strconv_Atoi.calls a0 t316 (some q318) _ A2.out (globg HT.out (bl HB.out))).mono ?_); rintro e w9 ⟨tp_, p_, rfl, hb⟩; refine ⟨_, rfl, ?_⟩; replace HB := ak (below_step (bl HB.out) hb); clear hb; (try simp only [errW_none, errW_some, errV_none, errV_some])))
  go_ret2
  exact ⟨by first | rfl | (simp [errW_none, errW_some, errV_none, errV_some] <;> rfl) | (simp [*, errW_none, errW_some] <;> rfl), bl HB.out⟩

/-! ### impl_isResponseLine: function 45 -/
def impl_isResponseLine.f (a0_0 : Int) (a0_1 : ByteArray) (l0_2 : List (S75)) (a0_3 : ByteArray) : Option (Bool) := (impl_within.f a0_0 100 599).bind fun t321 => (if t321 = true then ((impl_isPrinted.f a0_1 40).bind fun t322 => (some t322)) else (some false))
set_option maxHeartbeats 8000000 in
set_option maxRecDepth 100000 in
theorem impl_isResponseLine.calls (a0_0 : Int) (a0_1 : ByteArray) (A0_2 : Option Addr) (c0_2 : Nat) (l0_2 : List (S75)) (a0_3 : ByteArray) (r : Bool) (w : World) (hr0_2 : Kd.C k75 w A0_2 l0_2.length l0_2) (hc0_2 : l0_2.length ≤ c0_2) (h : impl_isResponseLine.f a0_0 a0_1 l0_2 a0_3 = some r) :
  Calls Tryz.prog 45 #[.agg #[.int .i64 a0_0, .string a0_1, .slice A0_2 l0_2.length c0_2, .string a0_3]] w fun e w' => e = .returned (.bool r) ∧ Below w.heap.size w w' := by
 have hu31 := Tryz.underlying31
 have HR0_2 := ak hr0_2
 have HC0_2 := ak hc0_2
 clear hr0_2 hc0_2
 have HB := ak (Below.refl w.heap.size w)
 have H : ((impl_within.f a0_0 100 599).bind fun t321 => (if t321 = true then ((impl_isPrinted.f a0_1 40).bind fun t322 => (some t322)) else (some false))) = some r := h
 clear h
 replace H := bs H
 obtain ⟨t321, A2, H⟩ := H
 try dsimp only at H
 by_cases c3 : t321 = true
 ·subst c3
  rw [if_pos rfl] at H
  replace H := bs H
  obtain ⟨t322, A4, H⟩ := H
  try dsimp only at H
  obtain rfl := Option.some.inj H
  go_enter Tryz.func45, Tryz.ntmps45
  go_wp2_with (first | ((with_reducible refine gd 1 ?_); refine bE 1 #[.int .i64 a0_0, .string a0_1, .slice A0_2 l0_2.length c0_2, .string a0_3] 31 ?_; intro gb320 hg w5 hbox hb; have BK320 := ak hbox; have GW320 := gs hg (bl HB.out); have GE320 := gs hg (bl HB.out); replace HB := ak (below_step (bl HB.out) hb); clear hb hbox hg; obtain ⟨hcz6_0, hcz6_1, hcz6_2, hcz6_3, hfz6_0, hfz6_1, hfz6_2, hfz6_3⟩ := b4 BK320.out) | ((with_reducible refine gc 79 ?_); refine gL 79 Tryz.func79 (some 5) #[.int .i64 a0_0, .int .i64 100, .int .i64 599] ?_; (with_reducible refine (impl_within.calls a0_0 100 599 true _ A2.out).mono ?_); rintro e w' ⟨rfl, ⟨nd, rfl⟩⟩; refine ⟨_, rfl, ?_⟩) | (go_at_call 80; (with_reducible refine (impl_isPrinted.calls a0_1 40 t322 _ A4.out).mono ?_); rintro e w7 ⟨rfl, hb⟩; replace BK320 := ak (blk_below (bk BK320.out) hb); replace HB := ak (below_step (bl1 HB.out GE320.out) hb); clear hb))
  go_ret
  exact ⟨by first | rfl | (simp [errW_none, errW_some] <;> rfl) | (simp [*, errW_none, errW_some] <;> rfl), bl1 HB.out GE320.out⟩
 ·replace c3 := Bool.eq_false_iff.mpr c3
  subst c3
  rw [if_neg ff] at H
  obtain rfl := Option.some.inj H
  go_enter Tryz.func45, Tryz.ntmps45
  go_wp2_with (first | ((with_reducible refine gd 1 ?_); refine bE 1 #[.int .i64 a0_0, .string a0_1, .slice A0_2 l0_2.length c0_2, .string a0_3] 31 ?_; intro gb320 hg w8 hbox hb; have BK320 := ak hbox; have GW320 := gs hg (bl HB.out); have GE320 := gs hg (bl HB.out); replace HB := ak (below_step (bl HB.out) hb); clear hb hbox hg; obtain ⟨hcz9_0, hcz9_1, hcz9_2, hcz9_3, hfz9_0, hfz9_1, hfz9_2, hfz9_3⟩ := b4 BK320.out) | ((with_reducible refine gc 79 ?_); refine gL 79 Tryz.func79 (some 5) #[.int .i64 a0_0, .int .i64 100, .int .i64 599] ?_; (with_reducible refine (impl_within.calls a0_0 100 599 false _ A2.out).mono ?_); rintro e w' ⟨rfl, ⟨nd, rfl⟩⟩; refine ⟨_, rfl, ?_⟩))
  go_ret
  exact ⟨by first | rfl | (simp [errW_none, errW_some] <;> rfl) | (simp [*, errW_none, errW_some] <;> rfl), bl1 HB.out GE320.out⟩

-- NOT PRINTED: function 41 (impl_TakeResponse_1)

end Go.Proofs.YthneflfbafieeaaGreatDoor.PFnTorn
