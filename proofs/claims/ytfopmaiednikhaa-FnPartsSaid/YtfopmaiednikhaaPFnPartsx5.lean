-- written by a program of this session (wip/tool)
import Derived.Test.YtfopmaiednikhaaPFnPartsx0
import Derived.Test.YtfopmaiednikhaaPFnPartsx4
import Derived.Test.YtfopmaiednikhaaVOwn0
import Derived.Test.YtfopmaiednikhaaVOwnOpen
import Derived.WalkKit
import Derived.BigCall
import Derived.Lib.SliceRun
import Derived.Deep.RegionLaw
import Derived.Maps.OwnSet
import Derived.Maps.OwnOps
import Derived.Maps.Views
import Derived.Test.YtfopmaiednikhaaVWZeros
import Derived.Test.YtfopmaiednikhaaVWArr
import Derived.Test.YtfopmaiednikhaaVOwnShort
import Derived.Test.YtfopmaiednikhaaOwnSq
namespace Go.Proofs.Ytfopmaiednikhaa.PFnParts
open Go.RowKit Go.Proofs.YtfopmaiednikhaaW.PrintWords Go.Proofs.YtfopmaiednikhaaW.PrintLast Go.Proofs.YtfopmaiednikhaaW.PrintMore Go.Shelf Go.Proofs.YtfopmaiednikhaaOwn
attribute [local go_sem] max2_int min2_int max_two min_two max_three min_three max_four min_four   -- for this text's walks alone
set_option linter.unusedVariables false
set_option linter.unusedSimpArgs false

/-! ### spec_l12Part: function 68 -/
def spec_l12Part.l0 : Nat → List (S45) → Int → List (S45) → Int → Int → Option (Bool)
 | 0, _, _, _, _, _ => none
 | k + 1, x0, x1, x7, x8, x9 => if x9 < x8 then (if 0 ≤ x9 then (if x9 < (x7.length : Int) then ((spec_l12Entry.f ((rd_T45 x7 x9).f0) ((rd_T45 x7 x9).f1)).bind fun t149 => (if t149 = true then (if x9 ≤ (x0.length : Int) then ((spec_l12At.f k (x0.take (x9 : Int).toNat) ((rd_T45 x7 x9).f0)).bind fun t154 => (if t154 ≥ 0 then (some false) else (spec_l12Part.l0 k x0 x1 x7 x8 (wrap64 (x9 + 1))))) else (none)) else (some false))) else (none)) else (none)) else (if (x0.length : Int) ≤ 60 then ((spec_l12Weight.f k x0).bind fun t146 => (some (decide (t146 ≤ x1)))) else (some false))
def spec_l12Part.f (k : Nat) (l0 : List (S45)) (a1 : Int) : Option (Bool) := spec_l12Part.l0 k l0 a1 l0 (l0.length : Int) 0
theorem spec_l12Part.mono_l : ∀ k, (∀ y0 y1 y2 y3 y4, LeO (spec_l12Part.l0 k y0 y1 y2 y3 y4) (spec_l12Part.l0 (k + 1) y0 y1 y2 y3 y4))
 | 0 => fun _ _ _ _ _ r h => by simp [spec_l12Part.l0] at h
 | k + 1 => by
  have ih0 := spec_l12Part.mono_l k
  ·intro y0 y1 y2 y3 y4
   unfold spec_l12Part.l0
   repeat' first
   | (with_reducible exact ih0 _ _ _ _ _)
   | (with_reducible exact spec_l12At.mono _ _ _)
   | (with_reducible exact spec_l12Weight.mono _ _)
   | (with_reducible exact LeO.refl _)
   | (with_reducible exact LeO.none _)
   | (with_reducible refine LeO.ite ?_ ?_)
   | (with_reducible refine LeO.bind ?_ (fun _ => ?_))
   | exact ih0 _ _ _ _ _
   | exact spec_l12At.mono _ _ _
   | exact spec_l12Weight.mono _ _
   | exact LeO.none _
   | refine LeO.ite ?_ ?_
   | refine LeO.bind ?_ (fun _ => ?_)
theorem spec_l12Part.mono : ∀ a0 a1 k, LeO (spec_l12Part.f k a0 a1) (spec_l12Part.f (k + 1) a0 a1) := by
 intro a0 a1 k
 have ih0 := spec_l12Part.mono_l k
 unfold spec_l12Part.f
 repeat' first
   | (with_reducible exact ih0 _ _ _ _ _)
   | (with_reducible exact spec_l12At.mono _ _ _)
   | (with_reducible exact spec_l12Weight.mono _ _)
   | (with_reducible exact LeO.refl _)
   | (with_reducible exact LeO.none _)
   | (with_reducible refine LeO.ite ?_ ?_)
   | (with_reducible refine LeO.bind ?_ (fun _ => ?_))
   | exact ih0 _ _ _ _ _
   | exact spec_l12At.mono _ _ _
   | exact spec_l12Weight.mono _ _
   | exact LeO.none _
   | refine LeO.ite ?_ ?_
   | refine LeO.bind ?_ (fun _ => ?_)
def spec_l12Part.T4 : Bool × List (List Nat × List Nat) := (true, [([], []), ([0], [0]), ([1], [1]), ([2, 1], [2]), ([3], [3]), ([3], [3]), ([4, 5, 3], [3, 4, 5]), ([3], [3]), ([7, 3], [3, 7]), ([6, 8, 3, 3], [3, 6, 8]), ([9, 3], [3, 9]), ([3, 10], [3, 10])])
def spec_l12Part.B4 : List Nat := [0, 1, 3, 7, 15, 15, 63, 15, 143, 511, 1023, 2047]
theorem spec_l12Part.tab4 : rtab .any (opsOf Try.f68 4) = spec_l12Part.T4 := by kernel_rfl
theorem spec_l12Part.bits4 : waitsOk spec_l12Part.T4.2 spec_l12Part.B4 = true := by kernel_rfl
set_option maxHeartbeats 8000000 in
set_option maxRecDepth 100000 in
theorem spec_l12Part.calls (k : Nat) (A0 : Option Addr) (c0 : Nat) (l0 : List (S45)) (a1 : Int) (r : Bool) (w : World) (hr0 : Kd.C k45 w A0 l0.length l0) (hc0 : l0.length ≤ c0) (h : spec_l12Part.f k l0 a1 = some r) :
  Calls Try.prog 68 #[.slice A0 l0.length c0, .int .i64 a1] w fun e w' => e = .returned (.bool r) ∧ Below w.heap.size w w' := by
 have hu45 := Try.underlying45
 have HR0 := ak hr0
 have HC0 := ak hc0
 clear hr0 hc0
 have HB := ak (Below.refl w.heap.size w)
 have H : (spec_l12Part.l0 k l0 a1 l0 (l0.length : Int) 0) = some r := h
 clear h
 have H' := ak H
 clear H
 go_enter Try.func68, Try.ntmps68
 go_wp2
 go_loopg [9] k (fun kq v9 w' => ∃ (x9_1 : Int), v9 = .int .i64 x9_1 ∧ Aside0 (spec_l12Part.l0 kq l0 a1 l0 (l0.length : Int) x9_1 = some r) ∧ Aside0 (kq ≤ k) ∧ Aside0 (Below w.heap.size w w'))
 case atStart => exact ⟨(0), (by first | rfl | (simp; done) | (simp [*]; done)), H', ⟨Nat.le_refl _⟩, ⟨bl HB.out⟩⟩
 case round =>
  clear H'
  try clear p2
  obtain ⟨x9_1, rfl, HA, HK1, HB⟩ := hrel
  cases gk with
  | zero => exact absurd HA.out (by simp [spec_l12Part.l0])
  | succ k1 =>
   have H := HA.out
   clear HA
   simp only [spec_l12Part.l0] at H
   by_cases c3 : x9_1 < (l0.length : Int)
   ·rw [if_pos c3] at H
    have c3b0 : decide (x9_1 < (l0.length : Int)) = true := decide_eq_true c3
    clear c3
    by_cases c4 : 0 ≤ x9_1
    ·rw [if_pos c4] at H
     have c4b0 : decide (0 ≤ x9_1) = true := decide_eq_true c4
     clear c4
     by_cases c5 : x9_1 < (l0.length : Int)
     ·rw [if_pos c5] at H
      have c5b0 : decide (x9_1 < (l0.length : Int)) = true := decide_eq_true c5
      clear c5
      replace H := Option.bind_eq_some_iff.mp H
      obtain ⟨t149, A60, H⟩ := H
      try dsimp only at H
      have A6 := ak A60
      clear A60
      by_cases c7 : t149 = true
      ·subst c7
       have H1 : (if x9_1 ≤ (l0.length : Int) then ((spec_l12At.f k1 (l0.take (x9_1 : Int).toNat) ((rd_T45 l0 x9_1).f0)).bind fun t154 => (if t154 ≥ 0 then (some false) else (spec_l12Part.l0 k1 l0 a1 l0 (l0.length : Int) (wrap64 (x9_1 + 1))))) else (none)) = some r := by rw [if_pos rfl] at H; exact H
       clear H
       have H := H1
       clear H1
       have c8b0 := eq_true (od : 0 ≤ x9_1)
       by_cases c9 : x9_1 ≤ (l0.length : Int)
       ·rw [if_pos c9] at H
        have c9b0 := eq_true c9
        have c9b1 : decide (x9_1 ≤ (l0.length : Int)) = true := decide_eq_true c9
        clear c9
        obtain ⟨y150, hy150⟩ : ∃ y_ : List (S45), y_ = (l0.take (x9_1 : Int).toNat) := ⟨_, rfl⟩
        replace H : ((spec_l12At.f k1 y150 ((rd_T45 l0 x9_1).f0)).bind fun t154 => (if t154 ≥ 0 then (some false) else (spec_l12Part.l0 k1 l0 a1 l0 (l0.length : Int) (wrap64 (x9_1 + 1))))) = some r := by first | (rw [hy150]; with_reducible exact H) | (have H2_ := (Option.bind_some _ _).symm.trans H; rw [hy150]; with_reducible exact H2_) | (have H2_ := (Option.bind_some _ _).symm.trans H; with_reducible exact H2_) | with_reducible exact H | (rw [hy150]; exact H) | exact H
        have Ny150 := ak hy150
        clear hy150
        replace H := Option.bind_eq_some_iff.mp H
        obtain ⟨t154, A100, H⟩ := H
        try dsimp only at H
        have A10 := ak A100
        clear A100
        by_cases c11 : t154 ≥ 0
        ·rw [if_pos c11] at H
         have c11b0 : decide (0 ≤ t154) = true := decide_eq_true c11
         clear c11
         obtain rfl := Option.some.inj H
         have p147 : 0 ≤ (x9_1 : Int) := od
         have q147 : x9_1 < (l0.length : Int) := od
         obtain ⟨ad147, e147, hx147_0, hx147_1⟩ := at_T45 HR0.out x9_1 p147 q147
         cases e147
         replace hx147_0 := (HB.out.cell (World.block_lt_of_cell? w _ hx147_0)).trans hx147_0
         replace hx147_1 := (HB.out.cell (World.block_lt_of_cell? w _ hx147_1)).trans hx147_1
         replace p147 := eq_true p147
         replace q147 := eq_true q147
         try go_wp2_with (first | (refine bE 6 #[.string (⟨#[]⟩ : ByteArray), .string (⟨#[]⟩ : ByteArray)] 45 ?_; intro gb148 hg w12 hbox hb; have BK148 := ak hbox; have GW148 := gs hg (bl HB.out); have GE148 := gs hg (bl HB.out); replace HB := ak (below_step (bl HB.out) hb); clear hb hbox hg; obtain ⟨hcz13_0, hcz13_1, hfz13_0, hfz13_1⟩ := b2 BK148.out))
         have n0_ : Aside0 (((w12.setCell ⟨gb148, 0, none⟩ (.string ((rd_T45 l0 x9_1).f0))).setCell ⟨gb148, 1, none⟩ (.string ((rd_T45 l0 x9_1).f1))).heap[gb148]? = some (.cells #[.string ((rd_T45 l0 x9_1).f0), .string ((rd_T45 l0 x9_1).f1)] 45 (0, 0))) := ⟨by (with_reducible repeat (first | refine blk_drewN ?_ _ | refine blk_drew ?_ | refine blk_alloc ?_ _)); refine blk_put (cs := #[.string ((rd_T45 l0 x9_1).f0), .string (⟨#[]⟩ : ByteArray)]) ?_ 1 _ rfl; (with_reducible repeat (first | refine blk_drewN ?_ _ | refine blk_drew ?_ | refine blk_alloc ?_ _)); refine blk_put (cs := #[.string (⟨#[]⟩ : ByteArray), .string (⟨#[]⟩ : ByteArray)]) ?_ 0 _ rfl; exact bk BK148.out⟩
         have n1_ : Aside0 (Below w.heap.size w ((w12.setCell ⟨gb148, 0, none⟩ (.string ((rd_T45 l0 x9_1).f0))).setCell ⟨gb148, 1, none⟩ (.string ((rd_T45 l0 x9_1).f1)))) := ⟨bl1 HB.out GE148.out⟩
         (try clear BK148)
         (try clear HB)
         generalize ((w12.setCell ⟨gb148, 0, none⟩ (.string ((rd_T45 l0 x9_1).f0))).setCell ⟨gb148, 1, none⟩ (.string ((rd_T45 l0 x9_1).f1))) = w14 at n0_ n1_ ⊢
         have BK148 := n0_
         have HB := n1_
         clear n0_ n1_
         replace BK148 := ak (blk_drew BK148.out)
         replace HB := ak (below_drew1 HB.out)
         refine start_ (n := 12) (S := fun w' => w'.cell? ⟨gb148, 0, none⟩ = some (.string ((rd_T45 l0 x9_1).f0)) ∧ w'.cell? ⟨gb148, 1, none⟩ = some (.string ((rd_T45 l0 x9_1).f1))) (ds := []) #[false, false, false, false, false, false, false, false, false, false, false, false] (by kernel_rfl) rfl rfl ⟨(blk_cell BK148.out 0).trans rfl, (blk_cell BK148.out 1).trans rfl⟩ (fun hHeld => ?_); refine with_tabW spec_l12Part.tab4 spec_l12Part.bits4 (fun HT_ HW_ => ?_)
         generalize w14.drew = w15 at BK148 HB hHeld ⊢
         refine tk 0 (some 14) HT_ HW_ hHeld ?_
         refine on 1 (some 15) HT_ (fun K hK => ?_)
         refine gO Try.func55 #[.agg #[.string ((rd_T45 l0 x9_1).f0), .string ((rd_T45 l0 x9_1).f1)]] ?_
         with_reducible refine (spec_l12Entry.calls ((rd_T45 l0 x9_1).f0) ((rd_T45 l0 x9_1).f1) true _ A6.out).mono ?_
         rintro e w16 ⟨rfl, hb⟩
         refine ⟨_, rfl, ?_⟩
         replace BK148 := ak (blk_below (bk BK148.out) hb)
         replace HB := ak (below_step (bl1 HB.out GE148.out) hb)
         clear hb
         (try clear hb2)
         (try clear hk)
         (try clear hi)
         have q17 : (x9_1 : Int) ≤ ((l0.length : Int) : Int) := od
         obtain ⟨i017, hi017, _, hsz17, _⟩ := info_parts info45
         have hroom17 : l0.length ≤ c0 := HC0.out
         have hC17 : Kd.C k45 _ (some ad147) l0.length l0 := HR0.out
         have hcut17 := cut_to (P := Try.prog) 26 45 .i64 Try.underlying26 hi017 (some ad147) l0.length c0 x9_1 (od) q17 hroom17
         have hr17 := Kd.C_take (m := (x9_1 : Int).toNat) hC17 (by omega)
         have hy17 : y150.length = (x9_1 : Int).toNat := (by rw [Ny150.out, List.length_take]; omega)
         rw [← Ny150.out] at hr17
         rw [← hy17] at hcut17
         have HR153 := ak hr17
         have HC153 := ak (show y150.length ≤ c0 from by omega)
         clear hr17 hC17 hroom17 hi017 hsz17
         have KY17 := ak hy17
         clear hy17
         replace q17 := eq_true q17
         refine hK.out _ _ ⟨(blk_cell BK148.out 0).trans rfl, (blk_cell BK148.out 1).trans rfl⟩ (fun hHeld => ?_)
         clear hK K
         refine norm_ (a' := ?_) ?_ ?_
         rotate_left
         ·show Act.put _ (some 15) _ = _
          simp only [Act.put, List.setIfInBounds_toArray, List.set_cons_zero, List.set_cons_succ, i64_w, i32_w]
          rfl
         refine pu 2 (some 16) HT_ ?_
         refine pu 3 (some 17) HT_ ?_
         refine pu 4 (some 18) HT_ ?_
         refine pu 5 (some 19) HT_ ?_
         refine pu 6 (some 20) HT_ ?_
         refine pu 7 (some 21) HT_ ?_
         refine tk 8 (some 22) HT_ HW_ hHeld ?_
         refine on 9 (some 23) HT_ (fun K hK => ?_)
         refine gO Try.func43 #[.slice (some ad147) y150.length c0, .string ((rd_T45 l0 x9_1).f0)] ?_
         with_reducible refine (spec_l12At.calls k1 _ _ y150 ((rd_T45 l0 x9_1).f0) t154 _ ?side1 ?side2 A10.out).mono ?_
         (case side1 => exact kc (Kd.C_below HR153.out HB.out))
         (case side2 => exact HC153.out)
         rintro e w18 ⟨rfl, hb⟩
         refine ⟨_, rfl, ?_⟩
         replace BK148 := ak (blk_below (bk BK148.out) hb)
         replace HB := ak (below_step (bl1 HB.out GE148.out) hb)
         clear hb
         (try clear hb2)
         (try clear hk)
         (try clear hi)
         refine hK.out _ _ ⟨(blk_cell BK148.out 0).trans rfl, (blk_cell BK148.out 1).trans rfl⟩ (fun hHeld => ?_)
         clear hK K
         refine norm_ (a' := ?_) ?_ ?_
         rotate_left
         ·show Act.put _ (some 23) _ = _
          simp only [Act.put, List.setIfInBounds_toArray, List.set_cons_zero, List.set_cons_succ, i64_w, i32_w]
          rfl
         refine pu 10 (some 24) HT_ ?_
         refine pu 11 (some 25) HT_ ?_
         refine done_ (done_of HT_.out (by kernel_rfl)) ?_
         try go_wp2
         go_ret
         exact ⟨by first | rfl | (simp [errW_none, errW_some] <;> rfl) | (simp [*, errW_none, errW_some] <;> rfl), bl1 HB.out GE148.out⟩
        ·rw [if_neg c11] at H
         have c11b0 : decide (0 ≤ t154) = false := decide_eq_false c11
         clear c11
         have H' := ak H
         clear H
         have p147 : 0 ≤ (x9_1 : Int) := od
         have q147 : x9_1 < (l0.length : Int) := od
         obtain ⟨ad147, e147, hx147_0, hx147_1⟩ := at_T45 HR0.out x9_1 p147 q147
         cases e147
         replace hx147_0 := (HB.out.cell (World.block_lt_of_cell? w _ hx147_0)).trans hx147_0
         replace hx147_1 := (HB.out.cell (World.block_lt_of_cell? w _ hx147_1)).trans hx147_1
         replace p147 := eq_true p147
         replace q147 := eq_true q147
         try go_wp2_with (first | (refine bE 6 #[.string (⟨#[]⟩ : ByteArray), .string (⟨#[]⟩ : ByteArray)] 45 ?_; intro gb148 hg w19 hbox hb; have BK148 := ak hbox; have GW148 := gs hg (bl HB.out); have GE148 := gs hg (bl HB.out); replace HB := ak (below_step (bl HB.out) hb); clear hb hbox hg; obtain ⟨hcz20_0, hcz20_1, hfz20_0, hfz20_1⟩ := b2 BK148.out))
         have n0_ : Aside0 (((w19.setCell ⟨gb148, 0, none⟩ (.string ((rd_T45 l0 x9_1).f0))).setCell ⟨gb148, 1, none⟩ (.string ((rd_T45 l0 x9_1).f1))).heap[gb148]? = some (.cells #[.string ((rd_T45 l0 x9_1).f0), .string ((rd_T45 l0 x9_1).f1)] 45 (0, 0))) := ⟨by (with_reducible repeat (first | refine blk_drewN ?_ _ | refine blk_drew ?_ | refine blk_alloc ?_ _)); refine blk_put (cs := #[.string ((rd_T45 l0 x9_1).f0), .string (⟨#[]⟩ : ByteArray)]) ?_ 1 _ rfl; (with_reducible repeat (first | refine blk_drewN ?_ _ | refine blk_drew ?_ | refine blk_alloc ?_ _)); refine blk_put (cs := #[.string (⟨#[]⟩ : ByteArray), .string (⟨#[]⟩ : ByteArray)]) ?_ 0 _ rfl; exact bk BK148.out⟩
         have n1_ : Aside0 (Below w.heap.size w ((w19.setCell ⟨gb148, 0, none⟩ (.string ((rd_T45 l0 x9_1).f0))).setCell ⟨gb148, 1, none⟩ (.string ((rd_T45 l0 x9_1).f1)))) := ⟨bl1 HB.out GE148.out⟩
         (try clear BK148)
         (try clear HB)
         generalize ((w19.setCell ⟨gb148, 0, none⟩ (.string ((rd_T45 l0 x9_1).f0))).setCell ⟨gb148, 1, none⟩ (.string ((rd_T45 l0 x9_1).f1))) = w21 at n0_ n1_ ⊢
         have BK148 := n0_
         have HB := n1_
         clear n0_ n1_
         replace BK148 := ak (blk_drew BK148.out)
         replace HB := ak (below_drew1 HB.out)
         refine start_ (n := 12) (S := fun w' => w'.cell? ⟨gb148, 0, none⟩ = some (.string ((rd_T45 l0 x9_1).f0)) ∧ w'.cell? ⟨gb148, 1, none⟩ = some (.string ((rd_T45 l0 x9_1).f1))) (ds := []) #[false, false, false, false, false, false, false, false, false, false, false, false] (by kernel_rfl) rfl rfl ⟨(blk_cell BK148.out 0).trans rfl, (blk_cell BK148.out 1).trans rfl⟩ (fun hHeld => ?_); refine with_tabW spec_l12Part.tab4 spec_l12Part.bits4 (fun HT_ HW_ => ?_)
         generalize w21.drew = w22 at BK148 HB hHeld ⊢
         refine tk 0 (some 14) HT_ HW_ hHeld ?_
         refine on 1 (some 15) HT_ (fun K hK => ?_)
         refine gO Try.func55 #[.agg #[.string ((rd_T45 l0 x9_1).f0), .string ((rd_T45 l0 x9_1).f1)]] ?_
         with_reducible refine (spec_l12Entry.calls ((rd_T45 l0 x9_1).f0) ((rd_T45 l0 x9_1).f1) true _ A6.out).mono ?_
         rintro e w23 ⟨rfl, hb⟩
         refine ⟨_, rfl, ?_⟩
         replace BK148 := ak (blk_below (bk BK148.out) hb)
         replace HB := ak (below_step (bl1 HB.out GE148.out) hb)
         clear hb
         (try clear hb2)
         (try clear hk)
         (try clear hi)
         have q24 : (x9_1 : Int) ≤ ((l0.length : Int) : Int) := od
         obtain ⟨i024, hi024, _, hsz24, _⟩ := info_parts info45
         have hroom24 : l0.length ≤ c0 := HC0.out
         have hC24 : Kd.C k45 _ (some ad147) l0.length l0 := HR0.out
         have hcut24 := cut_to (P := Try.prog) 26 45 .i64 Try.underlying26 hi024 (some ad147) l0.length c0 x9_1 (od) q24 hroom24
         have hr24 := Kd.C_take (m := (x9_1 : Int).toNat) hC24 (by omega)
         have hy24 : y150.length = (x9_1 : Int).toNat := (by rw [Ny150.out, List.length_take]; omega)
         rw [← Ny150.out] at hr24
         rw [← hy24] at hcut24
         have HR153 := ak hr24
         have HC153 := ak (show y150.length ≤ c0 from by omega)
         clear hr24 hC24 hroom24 hi024 hsz24
         have KY24 := ak hy24
         clear hy24
         replace q24 := eq_true q24
         refine hK.out _ _ ⟨(blk_cell BK148.out 0).trans rfl, (blk_cell BK148.out 1).trans rfl⟩ (fun hHeld => ?_)
         clear hK K
         refine norm_ (a' := ?_) ?_ ?_
         rotate_left
         ·show Act.put _ (some 15) _ = _
          simp only [Act.put, List.setIfInBounds_toArray, List.set_cons_zero, List.set_cons_succ, i64_w, i32_w]
          rfl
         refine pu 2 (some 16) HT_ ?_
         refine pu 3 (some 17) HT_ ?_
         refine pu 4 (some 18) HT_ ?_
         refine pu 5 (some 19) HT_ ?_
         refine pu 6 (some 20) HT_ ?_
         refine pu 7 (some 21) HT_ ?_
         refine tk 8 (some 22) HT_ HW_ hHeld ?_
         refine on 9 (some 23) HT_ (fun K hK => ?_)
         refine gO Try.func43 #[.slice (some ad147) y150.length c0, .string ((rd_T45 l0 x9_1).f0)] ?_
         with_reducible refine (spec_l12At.calls k1 _ _ y150 ((rd_T45 l0 x9_1).f0) t154 _ ?side1 ?side2 A10.out).mono ?_
         (case side1 => exact kc (Kd.C_below HR153.out HB.out))
         (case side2 => exact HC153.out)
         rintro e w25 ⟨rfl, hb⟩
         refine ⟨_, rfl, ?_⟩
         replace BK148 := ak (blk_below (bk BK148.out) hb)
         replace HB := ak (below_step (bl1 HB.out GE148.out) hb)
         clear hb
         (try clear hb2)
         (try clear hk)
         (try clear hi)
         refine hK.out _ _ ⟨(blk_cell BK148.out 0).trans rfl, (blk_cell BK148.out 1).trans rfl⟩ (fun hHeld => ?_)
         clear hK K
         refine norm_ (a' := ?_) ?_ ?_
         rotate_left
         ·show Act.put _ (some 23) _ = _
          simp only [Act.put, List.setIfInBounds_toArray, List.set_cons_zero, List.set_cons_succ, i64_w, i32_w]
          rfl
         refine pu 10 (some 24) HT_ ?_
         refine pu 11 (some 25) HT_ ?_
         refine done_ (done_of HT_.out (by kernel_rfl)) ?_
         try go_wp2
         go_roundg k1
         case measure => have := HK1.out; omega
         case rel => exact ⟨(wrap64 (x9_1 + 1)), (by first | rfl | (simp; done) | (simp [*]; done)), H', ⟨by have := HK1.out; omega⟩, ⟨bl1 HB.out GE148.out⟩⟩
       ·rw [if_neg c9] at H
        exact absurd H (by simp)
      ·replace c7 := Bool.eq_false_iff.mpr c7
       subst c7
       have H1 : (some false) = some r := by rw [if_neg (show ¬ (false = true) by decide)] at H; exact H
       clear H
       have H := H1
       clear H1
       obtain rfl := Option.some.inj H
       have p147 : 0 ≤ (x9_1 : Int) := od
       have q147 : x9_1 < (l0.length : Int) := od
       obtain ⟨ad147, e147, hx147_0, hx147_1⟩ := at_T45 HR0.out x9_1 p147 q147
       cases e147
       replace hx147_0 := (HB.out.cell (World.block_lt_of_cell? w _ hx147_0)).trans hx147_0
       replace hx147_1 := (HB.out.cell (World.block_lt_of_cell? w _ hx147_1)).trans hx147_1
       replace p147 := eq_true p147
       replace q147 := eq_true q147
       try go_wp2_with (first | (refine bE 6 #[.string (⟨#[]⟩ : ByteArray), .string (⟨#[]⟩ : ByteArray)] 45 ?_; intro gb148 hg w26 hbox hb; have BK148 := ak hbox; have GW148 := gs hg (bl HB.out); have GE148 := gs hg (bl HB.out); replace HB := ak (below_step (bl HB.out) hb); clear hb hbox hg; obtain ⟨hcz27_0, hcz27_1, hfz27_0, hfz27_1⟩ := b2 BK148.out))
       have n0_ : Aside0 (((w26.setCell ⟨gb148, 0, none⟩ (.string ((rd_T45 l0 x9_1).f0))).setCell ⟨gb148, 1, none⟩ (.string ((rd_T45 l0 x9_1).f1))).heap[gb148]? = some (.cells #[.string ((rd_T45 l0 x9_1).f0), .string ((rd_T45 l0 x9_1).f1)] 45 (0, 0))) := ⟨by (with_reducible repeat (first | refine blk_drewN ?_ _ | refine blk_drew ?_ | refine blk_alloc ?_ _)); refine blk_put (cs := #[.string ((rd_T45 l0 x9_1).f0), .string (⟨#[]⟩ : ByteArray)]) ?_ 1 _ rfl; (with_reducible repeat (first | refine blk_drewN ?_ _ | refine blk_drew ?_ | refine blk_alloc ?_ _)); refine blk_put (cs := #[.string (⟨#[]⟩ : ByteArray), .string (⟨#[]⟩ : ByteArray)]) ?_ 0 _ rfl; exact bk BK148.out⟩
       have n1_ : Aside0 (Below w.heap.size w ((w26.setCell ⟨gb148, 0, none⟩ (.string ((rd_T45 l0 x9_1).f0))).setCell ⟨gb148, 1, none⟩ (.string ((rd_T45 l0 x9_1).f1)))) := ⟨bl1 HB.out GE148.out⟩
       (try clear BK148)
       (try clear HB)
       generalize ((w26.setCell ⟨gb148, 0, none⟩ (.string ((rd_T45 l0 x9_1).f0))).setCell ⟨gb148, 1, none⟩ (.string ((rd_T45 l0 x9_1).f1))) = w28 at n0_ n1_ ⊢
       have BK148 := n0_
       have HB := n1_
       clear n0_ n1_
       replace BK148 := ak (blk_drew BK148.out)
       replace HB := ak (below_drew1 HB.out)
       refine start_ (n := 12) (S := fun w' => w'.cell? ⟨gb148, 0, none⟩ = some (.string ((rd_T45 l0 x9_1).f0)) ∧ w'.cell? ⟨gb148, 1, none⟩ = some (.string ((rd_T45 l0 x9_1).f1))) (ds := []) #[false, false, false, false, false, false, false, false, false, false, false, false] (by kernel_rfl) rfl rfl ⟨(blk_cell BK148.out 0).trans rfl, (blk_cell BK148.out 1).trans rfl⟩ (fun hHeld => ?_); refine with_tabW spec_l12Part.tab4 spec_l12Part.bits4 (fun HT_ HW_ => ?_)
       generalize w28.drew = w29 at BK148 HB hHeld ⊢
       refine tk 0 (some 14) HT_ HW_ hHeld ?_
       refine on 1 (some 15) HT_ (fun K hK => ?_)
       refine gO Try.func55 #[.agg #[.string ((rd_T45 l0 x9_1).f0), .string ((rd_T45 l0 x9_1).f1)]] ?_
       with_reducible refine (spec_l12Entry.calls ((rd_T45 l0 x9_1).f0) ((rd_T45 l0 x9_1).f1) false _ A6.out).mono ?_
       rintro e w30 ⟨rfl, hb⟩
       refine ⟨_, rfl, ?_⟩
       replace BK148 := ak (blk_below (bk BK148.out) hb)
       replace HB := ak (below_step (bl1 HB.out GE148.out) hb)
       clear hb
       (try clear hb2)
       (try clear hk)
       (try clear hi)
       refine hK.out _ _ ⟨(blk_cell BK148.out 0).trans rfl, (blk_cell BK148.out 1).trans rfl⟩ (fun hHeld => ?_)
       clear hK K
       refine norm_ (a' := ?_) ?_ ?_
       rotate_left
       ·show Act.put _ (some 15) _ = _
        simp only [Act.put, List.setIfInBounds_toArray, List.set_cons_zero, List.set_cons_succ, i64_w, i32_w]
        rfl
       refine pu 2 (some 16) HT_ ?_
       refine pu 3 (some 17) HT_ ?_
       refine pn 4 (some 18) HT_ ?_
       refine pn 5 (some 19) HT_ ?_
       refine pn 6 (some 20) HT_ ?_
       refine pn 7 (some 21) HT_ ?_
       refine pn 8 (some 22) HT_ ?_
       refine pn 9 (some 23) HT_ ?_
       refine pn 10 (some 24) HT_ ?_
       refine pu 11 (some 25) HT_ ?_
       refine done_ (done_of HT_.out (by kernel_rfl)) ?_
       try go_wp2
       go_ret
       exact ⟨by first | rfl | (simp [errW_none, errW_some] <;> rfl) | (simp [*, errW_none, errW_some] <;> rfl), bl1 HB.out GE148.out⟩
     ·rw [if_neg c5] at H
      exact absurd H (by simp)
    ·rw [if_neg c4] at H
     exact absurd H (by simp)
   ·rw [if_neg c3] at H
    have c3b0 : decide (x9_1 < (l0.length : Int)) = false := decide_eq_false c3
    clear c3
    by_cases c31 : (l0.length : Int) ≤ 60
    ·rw [if_pos c31] at H
     have c31b0 : decide ((l0.length : Int) ≤ 60) = true := decide_eq_true c31
     have c31b1 : decide (l0.length ≤ 60) = true := decide_eq_true (by omega)
     clear c31
     replace H := Option.bind_eq_some_iff.mp H
     obtain ⟨t146, A320, H⟩ := H
     try dsimp only at H
     have A32 := ak A320
     clear A320
     obtain rfl := Option.some.inj H
     go_wp2_with (first | (go_at_call 85; (with_reducible refine (spec_l12Weight.calls k1 _ _ l0 t146 _ ?side1 ?side2 A32.out).mono ?_); (case side1 => exact kc (Kd.C_below HR0.out HB.out)); (case side2 => exact HC0.out); rintro e w33 ⟨rfl, hb⟩; replace HB := ak (below_step (bl HB.out) hb); clear hb))
     go_ret
     exact ⟨by first | rfl | (simp [errW_none, errW_some] <;> rfl) | (simp [*, errW_none, errW_some] <;> rfl), bl HB.out⟩
    ·rw [if_neg c31] at H
     have c31b0 : decide ((l0.length : Int) ≤ 60) = false := decide_eq_false c31
     have c31b1 : decide (l0.length ≤ 60) = false := decide_eq_false (by omega)
     clear c31
     obtain rfl := Option.some.inj H
     go_wp2
     go_ret
     exact ⟨by first | rfl | (simp [errW_none, errW_some] <;> rfl) | (simp [*, errW_none, errW_some] <;> rfl), bl HB.out⟩

/-! ### spec_GoodSegmented: function 41 -/
def spec_GoodSegmented.l0 : Nat → List (S45) → Int → Int → Int → Int → List (S45) → List (S45) → Option (Bool)
 | 0, _, _, _, _, _, _, _ => none
 | k + 1, x6, x7, x8, x156000, x156001, x156002, x156003 => if x8 < x7 then (if 0 ≤ x8 then (if x8 < (x6.length : Int) then ((spec_l12At.f k x156002 ((rd_T45 x6 x8).f0)).bind fun t158 => (if t158 ≥ 0 then (some false) else (spec_GoodSegmented.l0 k x6 x7 (wrap64 (x8 + 1)) x156000 x156001 x156002 x156003))) else (none)) else (none)) else ((spec_l12Room.f x156000).bind fun t159 => (if t159 = true then ((spec_l12Room.f x156001).bind fun t160 => (if t160 = true then ((spec_l12Part.f k x156002 x156000).bind fun t161 => (if t161 = true then ((spec_l12Part.f k x156003 x156001).bind fun t162 => (some t162)) else (some false))) else (some false))) else (some false)))
def spec_GoodSegmented.f (k : Nat) (a0_0 : Int) (a0_1 : Int) (l0_2 : List (S45)) (l0_3 : List (S45)) : Option (Bool) := spec_GoodSegmented.l0 k l0_3 (l0_3.length : Int) 0 a0_0 a0_1 l0_2 l0_3
theorem spec_GoodSegmented.mono_l : ∀ k, (∀ y0 y1 y2 y3 y4 y5 y6, LeO (spec_GoodSegmented.l0 k y0 y1 y2 y3 y4 y5 y6) (spec_GoodSegmented.l0 (k + 1) y0 y1 y2 y3 y4 y5 y6))
 | 0 => fun _ _ _ _ _ _ _ r h => by simp [spec_GoodSegmented.l0] at h
 | k + 1 => by
  have ih0 := spec_GoodSegmented.mono_l k
  ·intro y0 y1 y2 y3 y4 y5 y6
   unfold spec_GoodSegmented.l0
   repeat' first
   | (with_reducible exact ih0 _ _ _ _ _ _ _)
   | (with_reducible exact spec_l12At.mono _ _ _)
   | (with_reducible exact spec_l12Part.mono _ _ _)
   | (with_reducible exact LeO.refl _)
   | (with_reducible exact LeO.none _)
   | (with_reducible refine LeO.ite ?_ ?_)
   | (with_reducible refine LeO.bind ?_ (fun _ => ?_))
   | exact ih0 _ _ _ _ _ _ _
   | exact spec_l12At.mono _ _ _
   | exact spec_l12Part.mono _ _ _
   | exact LeO.none _
   | refine LeO.ite ?_ ?_
   | refine LeO.bind ?_ (fun _ => ?_)
theorem spec_GoodSegmented.mono : ∀ a0 a1 a2 a3 k, LeO (spec_GoodSegmented.f k a0 a1 a2 a3) (spec_GoodSegmented.f (k + 1) a0 a1 a2 a3) := by
 intro a0 a1 a2 a3 k
 have ih0 := spec_GoodSegmented.mono_l k
 unfold spec_GoodSegmented.f
 repeat' first
   | (with_reducible exact ih0 _ _ _ _ _ _ _)
   | (with_reducible exact spec_l12At.mono _ _ _)
   | (with_reducible exact spec_l12Part.mono _ _ _)
   | (with_reducible exact LeO.refl _)
   | (with_reducible exact LeO.none _)
   | (with_reducible refine LeO.ite ?_ ?_)
   | (with_reducible refine LeO.bind ?_ (fun _ => ?_))
   | exact ih0 _ _ _ _ _ _ _
   | exact spec_l12At.mono _ _ _
   | exact spec_l12Part.mono _ _ _
   | exact LeO.none _
   | refine LeO.ite ?_ ?_
   | refine LeO.bind ?_ (fun _ => ?_)
set_option maxHeartbeats 8000000 in
set_option maxRecDepth 100000 in
theorem spec_GoodSegmented.calls (k : Nat) (a0_0 : Int) (a0_1 : Int) (A0_2 : Option Addr) (c0_2 : Nat) (l0_2 : List (S45)) (A0_3 : Option Addr) (c0_3 : Nat) (l0_3 : List (S45)) (r : Bool) (w : World) (hr0_2 : Kd.C k45 w A0_2 l0_2.length l0_2) (hc0_2 : l0_2.length ≤ c0_2) (hr0_3 : Kd.C k45 w A0_3 l0_3.length l0_3) (hc0_3 : l0_3.length ≤ c0_3) (h : spec_GoodSegmented.f k a0_0 a0_1 l0_2 l0_3 = some r) :
  Calls Try.prog 41 #[.agg #[.int .i64 a0_0, .int .i64 a0_1, .slice A0_2 l0_2.length c0_2, .slice A0_3 l0_3.length c0_3]] w fun e w' => e = .returned (.bool r) ∧ Below w.heap.size w w' := by
 have hu28 := Try.underlying28
 have hu45 := Try.underlying45
 have HR0_2 := ak hr0_2
 have HC0_2 := ak hc0_2
 clear hr0_2 hc0_2
 have HR0_3 := ak hr0_3
 have HC0_3 := ak hc0_3
 clear hr0_3 hc0_3
 have HB := ak (Below.refl w.heap.size w)
 have H : (spec_GoodSegmented.l0 k l0_3 (l0_3.length : Int) 0 a0_0 a0_1 l0_2 l0_3) = some r := h
 clear h
 have H' := ak H
 clear H
 go_enter Try.func41, Try.ntmps41
 go_wp2_with (first | (refine bE 1 #[.int .i64 a0_0, .int .i64 a0_1, .slice A0_2 l0_2.length c0_2, .slice A0_3 l0_3.length c0_3] 28 ?_; intro gb155 hg w2 hbox hb; have BK155 := ak hbox; have GW155 := gs hg (bl HB.out); have GE155 := gs hg (bl HB.out); replace HB := ak (below_step (bl HB.out) hb); clear hb hbox hg; obtain ⟨hcz3_0, hcz3_1, hcz3_2, hcz3_3, hfz3_0, hfz3_1, hfz3_2, hfz3_3⟩ := b4 BK155.out))
 go_loopg [8] k (fun kq v8 w' => ∃ (x8_1 : Int), v8 = .int .i64 x8_1 ∧ Aside0 (spec_GoodSegmented.l0 kq l0_3 (l0_3.length : Int) x8_1 a0_0 a0_1 l0_2 l0_3 = some r) ∧ Aside0 (kq ≤ k) ∧ Aside0 (w'.heap[gb155]? = some (.cells #[.int .i64 a0_0, .int .i64 a0_1, (.slice A0_2 l0_2.length c0_2), (.slice A0_3 l0_3.length c0_3)] 28 (0, 0))) ∧ Aside0 (Below w.heap.size w w'))
 case atStart => exact ⟨(0), (by first | rfl | (simp; done) | (simp [*]; done)), H', ⟨Nat.le_refl _⟩, ⟨bk BK155.out⟩, ⟨bl1 HB.out GE155.out⟩⟩
 case round =>
  clear H'
  try clear p2
  try clear hcz3_0
  try clear hcz3_1
  try clear hcz3_2
  try clear hcz3_3
  try clear hfz3_0
  try clear hfz3_1
  try clear hfz3_2
  try clear hfz3_3
  obtain ⟨x8_1, rfl, HA, HK1, BK155, HB⟩ := hrel
  cases gk with
  | zero => exact absurd HA.out (by simp [spec_GoodSegmented.l0])
  | succ k1 =>
   have H := HA.out
   clear HA
   simp only [spec_GoodSegmented.l0] at H
   by_cases c4 : x8_1 < (l0_3.length : Int)
   ·rw [if_pos c4] at H
    have c4b0 : decide (x8_1 < (l0_3.length : Int)) = true := decide_eq_true c4
    clear c4
    by_cases c5 : 0 ≤ x8_1
    ·rw [if_pos c5] at H
     have c5b0 : decide (0 ≤ x8_1) = true := decide_eq_true c5
     clear c5
     by_cases c6 : x8_1 < (l0_3.length : Int)
     ·rw [if_pos c6] at H
      have c6b0 : decide (x8_1 < (l0_3.length : Int)) = true := decide_eq_true c6
      clear c6
      replace H := Option.bind_eq_some_iff.mp H
      obtain ⟨t158, A70, H⟩ := H
      try dsimp only at H
      have A7 := ak A70
      clear A70
      by_cases c8 : t158 ≥ 0
      ·rw [if_pos c8] at H
       have c8b0 : decide (0 ≤ t158) = true := decide_eq_true c8
       clear c8
       obtain rfl := Option.some.inj H
       have p156 : 0 ≤ (x8_1 : Int) := od
       have q156 : x8_1 < (l0_3.length : Int) := od
       obtain ⟨ad156, e156, hx156_0, hx156_1⟩ := at_T45 HR0_3.out x8_1 p156 q156
       cases e156
       replace hx156_0 := (HB.out.cell (World.block_lt_of_cell? w _ hx156_0)).trans hx156_0
       replace hx156_1 := (HB.out.cell (World.block_lt_of_cell? w _ hx156_1)).trans hx156_1
       replace p156 := eq_true p156
       replace q156 := eq_true q156
       go_wp2_with (first | (refine bE 4 #[.string (⟨#[]⟩ : ByteArray), .string (⟨#[]⟩ : ByteArray)] 45 ?_; intro gb157 hg w9 hbox hb; have BK157 := ak hbox; have GW157 := gs hg (bl1 HB.out GE155.out); have GE157 := gs hg (bl1 HB.out GE155.out); replace HB := ak (below_step (bl1 HB.out GE155.out) hb); have NB155_157 := nl hg BK155.out; have NB157_155 := ng hg BK155.out; replace BK155 := ak (blk_below (bk BK155.out) hb); clear hb hbox hg; have hnb10 := NB157_155.out; have hnc10 := NB155_157.out; obtain ⟨hcz11_0, hcz11_1, hfz11_0, hfz11_1⟩ := b2 BK157.out; obtain ⟨hcz12_0, hcz12_1, hcz12_2, hcz12_3, hfz12_0, hfz12_1, hfz12_2, hfz12_3⟩ := b4 BK155.out) | (refine gL 43 Try.func43 (some 16) #[.slice A0_2 l0_2.length c0_2, .string ((rd_T45 l0_3 x8_1).f0)] ?_; (with_reducible refine (spec_l12At.calls k1 _ _ l0_2 ((rd_T45 l0_3 x8_1).f0) t158 _ ?side1 ?side2 A7.out).mono ?_); (case side1 => exact Kd.C_below HR0_2.out (bl2 HB.out GE155.out GE157.out)); (case side2 => exact HC0_2.out); rintro e w13 ⟨rfl, hb⟩; refine ⟨_, rfl, ?_⟩; replace BK155 := ak (blk_below (g := gb155) (o := .cells #[.int .i64 a0_0, .int .i64 a0_1, .slice A0_2 l0_2.length c0_2, .slice (some ad156) l0_3.length c0_3] 28 (0, 0)) (bq BK155.out) hb); replace BK157 := ak (blk_below (g := gb157) (o := .cells #[.string ((rd_T45 l0_3 x8_1).f0), .string ((rd_T45 l0_3 x8_1).f1)] 45 (0, 0)) (bq BK157.out) hb); replace HB := ak (below_step (bl2 HB.out GE155.out GE157.out) hb); clear hb))
       go_ret
       exact ⟨by first | rfl | (simp [errW_none, errW_some] <;> rfl) | (simp [*, errW_none, errW_some] <;> rfl), bl2 HB.out GE155.out GE157.out⟩
      ·rw [if_neg c8] at H
       have c8b0 : decide (0 ≤ t158) = false := decide_eq_false c8
       clear c8
       have H' := ak H
       clear H
       have p156 : 0 ≤ (x8_1 : Int) := od
       have q156 : x8_1 < (l0_3.length : Int) := od
       obtain ⟨ad156, e156, hx156_0, hx156_1⟩ := at_T45 HR0_3.out x8_1 p156 q156
       cases e156
       replace hx156_0 := (HB.out.cell (World.block_lt_of_cell? w _ hx156_0)).trans hx156_0
       replace hx156_1 := (HB.out.cell (World.block_lt_of_cell? w _ hx156_1)).trans hx156_1
       replace p156 := eq_true p156
       replace q156 := eq_true q156
       go_wp2_with (first | (refine bE 4 #[.string (⟨#[]⟩ : ByteArray), .string (⟨#[]⟩ : ByteArray)] 45 ?_; intro gb157 hg w14 hbox hb; have BK157 := ak hbox; have GW157 := gs hg (bl1 HB.out GE155.out); have GE157 := gs hg (bl1 HB.out GE155.out); replace HB := ak (below_step (bl1 HB.out GE155.out) hb); have NB155_157 := nl hg BK155.out; have NB157_155 := ng hg BK155.out; replace BK155 := ak (blk_below (bk BK155.out) hb); clear hb hbox hg; have hnb15 := NB157_155.out; have hnc15 := NB155_157.out; obtain ⟨hcz16_0, hcz16_1, hfz16_0, hfz16_1⟩ := b2 BK157.out; obtain ⟨hcz17_0, hcz17_1, hcz17_2, hcz17_3, hfz17_0, hfz17_1, hfz17_2, hfz17_3⟩ := b4 BK155.out) | (refine gL 43 Try.func43 (some 16) #[.slice A0_2 l0_2.length c0_2, .string ((rd_T45 l0_3 x8_1).f0)] ?_; (with_reducible refine (spec_l12At.calls k1 _ _ l0_2 ((rd_T45 l0_3 x8_1).f0) t158 _ ?side1 ?side2 A7.out).mono ?_); (case side1 => exact Kd.C_below HR0_2.out (bl2 HB.out GE155.out GE157.out)); (case side2 => exact HC0_2.out); rintro e w18 ⟨rfl, hb⟩; refine ⟨_, rfl, ?_⟩; replace BK155 := ak (blk_below (g := gb155) (o := .cells #[.int .i64 a0_0, .int .i64 a0_1, .slice A0_2 l0_2.length c0_2, .slice (some ad156) l0_3.length c0_3] 28 (0, 0)) (bq BK155.out) hb); replace BK157 := ak (blk_below (g := gb157) (o := .cells #[.string ((rd_T45 l0_3 x8_1).f0), .string ((rd_T45 l0_3 x8_1).f1)] 45 (0, 0)) (bq BK157.out) hb); replace HB := ak (below_step (bl2 HB.out GE155.out GE157.out) hb); clear hb))
       go_roundg k1
       case measure => have := HK1.out; omega
       case rel => exact ⟨(wrap64 (x8_1 + 1)), (by first | rfl | (simp; done) | (simp [*]; done)), H', ⟨by have := HK1.out; omega⟩, ⟨bk BK155.out⟩, ⟨bl2 HB.out GE155.out GE157.out⟩⟩
     ·rw [if_neg c6] at H
      exact absurd H (by simp)
    ·rw [if_neg c5] at H
     exact absurd H (by simp)
   ·rw [if_neg c4] at H
    have c4b0 : decide (x8_1 < (l0_3.length : Int)) = false := decide_eq_false c4
    clear c4
    replace H := Option.bind_eq_some_iff.mp H
    obtain ⟨t159, A190, H⟩ := H
    try dsimp only at H
    have A19 := ak A190
    clear A190
    by_cases c20 : t159 = true
    ·subst c20
     have H1 : ((spec_l12Room.f a0_1).bind fun t160 => (if t160 = true then ((spec_l12Part.f k1 l0_2 a0_0).bind fun t161 => (if t161 = true then ((spec_l12Part.f k1 l0_3 a0_1).bind fun t162 => (some t162)) else (some false))) else (some false))) = some r := by rw [if_pos rfl] at H; exact H
     clear H
     have H := H1
     clear H1
     replace H := Option.bind_eq_some_iff.mp H
     obtain ⟨t160, A210, H⟩ := H
     try dsimp only at H
     have A21 := ak A210
     clear A210
     by_cases c22 : t160 = true
     ·subst c22
      have H1 : ((spec_l12Part.f k1 l0_2 a0_0).bind fun t161 => (if t161 = true then ((spec_l12Part.f k1 l0_3 a0_1).bind fun t162 => (some t162)) else (some false))) = some r := by rw [if_pos rfl] at H; exact H
      clear H
      have H := H1
      clear H1
      replace H := Option.bind_eq_some_iff.mp H
      obtain ⟨t161, A230, H⟩ := H
      try dsimp only at H
      have A23 := ak A230
      clear A230
      by_cases c24 : t161 = true
      ·subst c24
       have H1 : ((spec_l12Part.f k1 l0_3 a0_1).bind fun t162 => (some t162)) = some r := by rw [if_pos rfl] at H; exact H
       clear H
       have H := H1
       clear H1
       replace H := Option.bind_eq_some_iff.mp H
       obtain ⟨t162, A250, H⟩ := H
       try dsimp only at H
       have A25 := ak A250
       clear A250
       obtain rfl := Option.some.inj H
       obtain ⟨hcz26_0, hcz26_1, hcz26_2, hcz26_3, hfz26_0, hfz26_1, hfz26_2, hfz26_3⟩ := b4 BK155.out
       go_wp2_with (first | (refine gL 67 Try.func67 (some 21) #[.int .i64 a0_0] ?_; (with_reducible refine (spec_l12Room.calls a0_0 true _ A19.out).mono ?_); rintro e w' ⟨rfl, ⟨nd, rfl⟩⟩; refine ⟨_, rfl, ?_⟩) | (go_at_call 67; (with_reducible refine (spec_l12Room.calls a0_1 true _ A21.out).mono ?_); rintro e w' ⟨rfl, ⟨nd, rfl⟩⟩) | (go_at_call 68; (with_reducible refine (spec_l12Part.calls k1 _ _ l0_2 a0_0 true _ ?side1 ?side2 A23.out).mono ?_); (case side1 => exact kc (Kd.C_below HR0_2.out (bl1 HB.out GE155.out))); (case side2 => exact HC0_2.out); rintro e w27 ⟨rfl, hb⟩; replace BK155 := ak (blk_below (bk BK155.out) hb); replace HB := ak (below_step (bl1 HB.out GE155.out) hb); clear hb; obtain ⟨hcz28_0, hcz28_1, hcz28_2, hcz28_3, hfz28_0, hfz28_1, hfz28_2, hfz28_3⟩ := b4 BK155.out) | (go_at_call 68; (with_reducible refine (spec_l12Part.calls k1 _ _ l0_3 a0_1 t162 _ ?side1 ?side2 A25.out).mono ?_); (case side1 => exact kc (Kd.C_below HR0_3.out HB.out)); (case side2 => exact HC0_3.out); rintro e w29 ⟨rfl, hb⟩; replace BK155 := ak (blk_below (bk BK155.out) hb); replace HB := ak (below_step (bl1 HB.out GE155.out) hb); clear hb))
       go_ret
       exact ⟨by first | rfl | (simp [errW_none, errW_some] <;> rfl) | (simp [*, errW_none, errW_some] <;> rfl), bl1 HB.out GE155.out⟩
      ·replace c24 := Bool.eq_false_iff.mpr c24
       subst c24
       have H1 : (some false) = some r := by rw [if_neg (show ¬ (false = true) by decide)] at H; exact H
       clear H
       have H := H1
       clear H1
       obtain rfl := Option.some.inj H
       obtain ⟨hcz30_0, hcz30_1, hcz30_2, hcz30_3, hfz30_0, hfz30_1, hfz30_2, hfz30_3⟩ := b4 BK155.out
       go_wp2_with (first | (refine gL 67 Try.func67 (some 21) #[.int .i64 a0_0] ?_; (with_reducible refine (spec_l12Room.calls a0_0 true _ A19.out).mono ?_); rintro e w' ⟨rfl, ⟨nd, rfl⟩⟩; refine ⟨_, rfl, ?_⟩) | (go_at_call 67; (with_reducible refine (spec_l12Room.calls a0_1 true _ A21.out).mono ?_); rintro e w' ⟨rfl, ⟨nd, rfl⟩⟩) | (go_at_call 68; (with_reducible refine (spec_l12Part.calls k1 _ _ l0_2 a0_0 false _ ?side1 ?side2 A23.out).mono ?_); (case side1 => exact kc (Kd.C_below HR0_2.out (bl1 HB.out GE155.out))); (case side2 => exact HC0_2.out); rintro e w31 ⟨rfl, hb⟩; replace BK155 := ak (blk_below (bk BK155.out) hb); replace HB := ak (below_step (bl1 HB.out GE155.out) hb); clear hb))
       go_ret
       exact ⟨by first | rfl | (simp [errW_none, errW_some] <;> rfl) | (simp [*, errW_none, errW_some] <;> rfl), bl1 HB.out GE155.out⟩
     ·replace c22 := Bool.eq_false_iff.mpr c22
      subst c22
      have H1 : (some false) = some r := by rw [if_neg (show ¬ (false = true) by decide)] at H; exact H
      clear H
      have H := H1
      clear H1
      obtain rfl := Option.some.inj H
      obtain ⟨hcz32_0, hcz32_1, hcz32_2, hcz32_3, hfz32_0, hfz32_1, hfz32_2, hfz32_3⟩ := b4 BK155.out
      go_wp2_with (first | (refine gL 67 Try.func67 (some 21) #[.int .i64 a0_0] ?_; (with_reducible refine (spec_l12Room.calls a0_0 true _ A19.out).mono ?_); rintro e w' ⟨rfl, ⟨nd, rfl⟩⟩; refine ⟨_, rfl, ?_⟩) | (go_at_call 67; (with_reducible refine (spec_l12Room.calls a0_1 false _ A21.out).mono ?_); rintro e w' ⟨rfl, ⟨nd, rfl⟩⟩))
      go_ret
      exact ⟨by first | rfl | (simp [errW_none, errW_some] <;> rfl) | (simp [*, errW_none, errW_some] <;> rfl), bl1 HB.out GE155.out⟩
    ·replace c20 := Bool.eq_false_iff.mpr c20
     subst c20
     have H1 : (some false) = some r := by rw [if_neg (show ¬ (false = true) by decide)] at H; exact H
     clear H
     have H := H1
     clear H1
     obtain rfl := Option.some.inj H
     obtain ⟨hcz33_0, hcz33_1, hcz33_2, hcz33_3, hfz33_0, hfz33_1, hfz33_2, hfz33_3⟩ := b4 BK155.out
     go_wp2_with (first | (refine gL 67 Try.func67 (some 21) #[.int .i64 a0_0] ?_; (with_reducible refine (spec_l12Room.calls a0_0 false _ A19.out).mono ?_); rintro e w' ⟨rfl, ⟨nd, rfl⟩⟩; refine ⟨_, rfl, ?_⟩))
     go_ret
     exact ⟨by first | rfl | (simp [errW_none, errW_some] <;> rfl) | (simp [*, errW_none, errW_some] <;> rfl), bl1 HB.out GE155.out⟩

end Go.Proofs.Ytfopmaiednikhaa.PFnParts
