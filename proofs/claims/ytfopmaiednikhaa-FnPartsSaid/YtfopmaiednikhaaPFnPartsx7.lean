-- written by a program of this session (wip/tool)
import Derived.Test.YtfopmaiednikhaaPFnPartsx0
import Derived.Test.YtfopmaiednikhaaPFnPartsx4
import Derived.Test.YtfopmaiednikhaaPFnPartsx6
import Derived.Test.YtfopmaiednikhaaVOwn0
import Derived.Test.YtfopmaiednikhaaVOwnOpen
import Derived.WalkKit
import Derived.BigCall
import Derived.Lib.SliceRun
import Derived.Deep.RegionLaw
import Derived.Maps.OwnSet
import Derived.Maps.OwnOps
import Derived.Maps.Views
import Derived.Test.YtfopmaiednikhaaVWZeros
import Derived.Test.YtfopmaiednikhaaVWArr
import Derived.Test.YtfopmaiednikhaaVOwnShort
import Derived.Test.YtfopmaiednikhaaOwnSq
namespace Go.Proofs.Ytfopmaiednikhaa.PFnParts
open Go.RowKit Go.Proofs.YtfopmaiednikhaaW.PrintWords Go.Proofs.YtfopmaiednikhaaW.PrintLast Go.Proofs.YtfopmaiednikhaaW.PrintMore Go.Shelf Go.Proofs.YtfopmaiednikhaaOwn
attribute [local go_sem] max2_int min2_int max_two min_two max_three min_three max_four min_four   -- for this text's walks alone
set_option linter.unusedVariables false
set_option linter.unusedSimpArgs false

/-! ### spec_l12Fit: function 81 -/
mutual
def spec_l12Fit.j1 : Nat → Int → Int → List (S45) → List (S45) → Option (Int × Int × (List (S45)) × (List (S45)) × (List (S45)))
 | 0, _, _, _, _ => none
 | k + 1, x202000, x202001, x202002, x202003 => spec_l12Fit.l1 k ([] : List (S45)) (x202002.length : Int) x202000 x202001 x202002 x202003
def spec_l12Fit.l1 : Nat → List (S45) → Int → Int → Int → List (S45) → List (S45) → Option (Int × Int × (List (S45)) × (List (S45)) × (List (S45)))
 | 0, _, _, _, _, _, _ => none
 | k + 1, x5, x6, x202000, x202001, x202002, x202003 => if x6 > 0 then (if x6 > 60 then (if 0 ≤ (wrap64 (x6 - 1)) then (if (wrap64 (x6 - 1)) < (x202002.length : Int) then (if x5.length < 4398046511104 then (if (wrap64 (x6 - 1)) ≤ (x202002.length : Int) then (spec_l12Fit.l1 k (x5 ++ [(⟨(rd_T45 x202002 (wrap64 (x6 - 1))).f0, (rd_T45 x202002 (wrap64 (x6 - 1))).f1⟩ : S45)]) (wrap64 (x6 - 1)) x202000 x202001 (x202002.take ((wrap64 (x6 - 1)) : Int).toNat) x202003) else (none)) else (none)) else (none)) else (none)) else ((spec_l12Weight.f k x202002).bind fun t231 => (if t231 > x202000 then (if 0 ≤ (wrap64 (x6 - 1)) then (if (wrap64 (x6 - 1)) < (x202002.length : Int) then (if x5.length < 4398046511104 then (if (wrap64 (x6 - 1)) ≤ (x202002.length : Int) then (spec_l12Fit.l1 k (x5 ++ [(⟨(rd_T45 x202002 (wrap64 (x6 - 1))).f0, (rd_T45 x202002 (wrap64 (x6 - 1))).f1⟩ : S45)]) (wrap64 (x6 - 1)) x202000 x202001 (x202002.take ((wrap64 (x6 - 1)) : Int).toNat) x202003) else (none)) else (none)) else (none)) else (none)) else ((spec_l12Own.f x202000 x202001 x202002 x202003).bind fun bt241 => (some (bt241.1, bt241.2.1, bt241.2.2.1, bt241.2.2.2, x5)))))) else ((spec_l12Own.f x202000 x202001 x202002 x202003).bind fun bt249 => (some (bt249.1, bt249.2.1, bt249.2.2.1, bt249.2.2.2, x5)))
def spec_l12Fit.l0 : Nat → Int → Int → Int → List (S45) → List (S45) → Option (Int × Int × (List (S45)) × (List (S45)) × (List (S45)))
 | 0, _, _, _, _, _ => none
 | k + 1, x4, x202000, x202001, x202002, x202003 => if x4 > 0 then (if x4 > 60 then (if 0 ≤ (wrap64 (x4 - 1)) then (if (wrap64 (x4 - 1)) < (x202003.length : Int) then ((spec_l12Ahead.f x202002 ((rd_T45 x202003 (wrap64 (x4 - 1))).f0) ((rd_T45 x202003 (wrap64 (x4 - 1))).f1)).bind fun t204 => (if (wrap64 (x4 - 1)) ≤ (x202003.length : Int) then (spec_l12Fit.l0 k (wrap64 (x4 - 1)) x202000 x202001 t204 (x202003.take ((wrap64 (x4 - 1)) : Int).toNat)) else (none))) else (none)) else (none)) else ((spec_l12Weight.f k x202003).bind fun t212 => (if t212 > x202001 then (if 0 ≤ (wrap64 (x4 - 1)) then (if (wrap64 (x4 - 1)) < (x202003.length : Int) then ((spec_l12Ahead.f x202002 ((rd_T45 x202003 (wrap64 (x4 - 1))).f0) ((rd_T45 x202003 (wrap64 (x4 - 1))).f1)).bind fun t214 => (if (wrap64 (x4 - 1)) ≤ (x202003.length : Int) then (spec_l12Fit.l0 k (wrap64 (x4 - 1)) x202000 x202001 t214 (x202003.take ((wrap64 (x4 - 1)) : Int).toNat)) else (none))) else (none)) else (none)) else (spec_l12Fit.j1 k x202000 x202001 x202002 x202003)))) else (spec_l12Fit.j1 k x202000 x202001 x202002 x202003)
end
def spec_l12Fit.f (k : Nat) (a0_0 : Int) (a0_1 : Int) (l0_2 : List (S45)) (l0_3 : List (S45)) : Option (Int × Int × (List (S45)) × (List (S45)) × (List (S45))) := spec_l12Fit.l0 k (l0_3.length : Int) a0_0 a0_1 l0_2 l0_3
theorem spec_l12Fit.mono_l : ∀ k, (∀ y0 y1 y2 y3, LeO (spec_l12Fit.j1 k y0 y1 y2 y3) (spec_l12Fit.j1 (k + 1) y0 y1 y2 y3)) ∧ (∀ y0 y1 y2 y3 y4 y5, LeO (spec_l12Fit.l1 k y0 y1 y2 y3 y4 y5) (spec_l12Fit.l1 (k + 1) y0 y1 y2 y3 y4 y5)) ∧ (∀ y0 y1 y2 y3 y4, LeO (spec_l12Fit.l0 k y0 y1 y2 y3 y4) (spec_l12Fit.l0 (k + 1) y0 y1 y2 y3 y4))
 | 0 => ⟨fun _ _ _ _ r h => by simp [spec_l12Fit.j1] at h, fun _ _ _ _ _ _ r h => by simp [spec_l12Fit.l1] at h, fun _ _ _ _ _ r h => by simp [spec_l12Fit.l0] at h⟩
 | k + 1 => by
  obtain ⟨ih0, ih1, ih2⟩ := spec_l12Fit.mono_l k
  refine ⟨?_, ?_, ?_⟩
  ·intro y0 y1 y2 y3
   unfold spec_l12Fit.j1
   repeat' first
   | (with_reducible exact ih0 _ _ _ _)
   | (with_reducible exact ih1 _ _ _ _ _ _)
   | (with_reducible exact ih2 _ _ _ _ _)
   | (with_reducible exact spec_l12Weight.mono _ _)
   | (with_reducible exact LeO.refl _)
   | (with_reducible exact LeO.none _)
   | (with_reducible refine LeO.ite ?_ ?_)
   | (with_reducible refine LeO.bind ?_ (fun _ => ?_))
   | exact ih0 _ _ _ _
   | exact ih1 _ _ _ _ _ _
   | exact ih2 _ _ _ _ _
   | exact spec_l12Weight.mono _ _
   | exact LeO.none _
   | refine LeO.ite ?_ ?_
   | refine LeO.bind ?_ (fun _ => ?_)
  ·intro y0 y1 y2 y3 y4 y5
   unfold spec_l12Fit.l1
   repeat' first
   | (with_reducible exact ih0 _ _ _ _)
   | (with_reducible exact ih1 _ _ _ _ _ _)
   | (with_reducible exact ih2 _ _ _ _ _)
   | (with_reducible exact spec_l12Weight.mono _ _)
   | (with_reducible exact LeO.refl _)
   | (with_reducible exact LeO.none _)
   | (with_reducible refine LeO.ite ?_ ?_)
   | (with_reducible refine LeO.bind ?_ (fun _ => ?_))
   | exact ih0 _ _ _ _
   | exact ih1 _ _ _ _ _ _
   | exact ih2 _ _ _ _ _
   | exact spec_l12Weight.mono _ _
   | exact LeO.none _
   | refine LeO.ite ?_ ?_
   | refine LeO.bind ?_ (fun _ => ?_)
  ·intro y0 y1 y2 y3 y4
   unfold spec_l12Fit.l0
   repeat' first
   | (with_reducible exact ih0 _ _ _ _)
   | (with_reducible exact ih1 _ _ _ _ _ _)
   | (with_reducible exact ih2 _ _ _ _ _)
   | (with_reducible exact spec_l12Weight.mono _ _)
   | (with_reducible exact LeO.refl _)
   | (with_reducible exact LeO.none _)
   | (with_reducible refine LeO.ite ?_ ?_)
   | (with_reducible refine LeO.bind ?_ (fun _ => ?_))
   | exact ih0 _ _ _ _
   | exact ih1 _ _ _ _ _ _
   | exact ih2 _ _ _ _ _
   | exact spec_l12Weight.mono _ _
   | exact LeO.none _
   | refine LeO.ite ?_ ?_
   | refine LeO.bind ?_ (fun _ => ?_)
theorem spec_l12Fit.mono : ∀ a0 a1 a2 a3 k, LeO (spec_l12Fit.f k a0 a1 a2 a3) (spec_l12Fit.f (k + 1) a0 a1 a2 a3) := by
 intro a0 a1 a2 a3 k
 obtain ⟨ih0, ih1, ih2⟩ := spec_l12Fit.mono_l k
 unfold spec_l12Fit.f
 repeat' first
   | (with_reducible exact ih0 _ _ _ _)
   | (with_reducible exact ih1 _ _ _ _ _ _)
   | (with_reducible exact ih2 _ _ _ _ _)
   | (with_reducible exact spec_l12Weight.mono _ _)
   | (with_reducible exact LeO.refl _)
   | (with_reducible exact LeO.none _)
   | (with_reducible refine LeO.ite ?_ ?_)
   | (with_reducible refine LeO.bind ?_ (fun _ => ?_))
   | exact ih0 _ _ _ _
   | exact ih1 _ _ _ _ _ _
   | exact ih2 _ _ _ _ _
   | exact spec_l12Weight.mono _ _
   | exact LeO.none _
   | refine LeO.ite ?_ ?_
   | refine LeO.bind ?_ (fun _ => ?_)
def spec_l12Fit.T2 : Bool × List (List Nat × List Nat) := (true, [([], []), ([0], [0]), ([1], [1]), ([2], [2]), ([3, 2], [2, 3]), ([4, 2, 2], [2, 4]), ([5], [5]), ([6, 5], [5, 6]), ([7, 5, 5], [5, 7]), ([5], [5]), ([9, 5], [5, 9]), ([8, 10, 5], [5, 8, 10]), ([5, 11, 2], [2, 5, 11]), ([2, 12], [2, 12])])
def spec_l12Fit.B2 : List Nat := [0, 1, 3, 7, 15, 31, 63, 127, 255, 63, 575, 2047, 4095, 8191]
theorem spec_l12Fit.tab2 : rtab .any (opsOf Try.f81 2) = spec_l12Fit.T2 := by kernel_rfl
theorem spec_l12Fit.bits2 : waitsOk spec_l12Fit.T2.2 spec_l12Fit.B2 = true := by kernel_rfl
def spec_l12Fit.T4 : Bool × List (List Nat × List Nat) := (true, [([], []), ([0], [0]), ([], []), ([2], [2]), ([], []), ([4], [4]), ([3, 5], [3, 5]), ([6], [6]), ([1, 7], [1, 7]), ([0, 1, 2, 3, 4, 5, 6, 7, 8], []), ([9, 8, 8, 0, 1, 2, 3, 4, 5, 6, 7, 8], [8, 9])])
def spec_l12Fit.B4 : List Nat := [0, 1, 0, 4, 0, 16, 60, 124, 255, 511, 1023]
theorem spec_l12Fit.tab4 : rtab .any (opsOf Try.f81 4) = spec_l12Fit.T4 := by kernel_rfl
theorem spec_l12Fit.bits4 : waitsOk spec_l12Fit.T4.2 spec_l12Fit.B4 = true := by kernel_rfl
def spec_l12Fit.T8 : Bool × List (List Nat × List Nat) := (true, [([], []), ([0], [0]), ([1], [1]), ([2], [2]), ([3, 2], [2, 3]), ([4, 2, 2], [2, 4]), ([5], [5]), ([6, 5], [5, 6]), ([7, 5, 5], [5, 7]), ([5], [5]), ([9, 5], [5, 9]), ([8, 10, 5], [5, 8, 10]), ([5, 11, 2], [2, 5, 11]), ([2, 12], [2, 12])])
def spec_l12Fit.B8 : List Nat := [0, 1, 3, 7, 15, 31, 63, 127, 255, 63, 575, 2047, 4095, 8191]
theorem spec_l12Fit.tab8 : rtab .any (opsOf Try.f81 8) = spec_l12Fit.T8 := by kernel_rfl
theorem spec_l12Fit.bits8 : waitsOk spec_l12Fit.T8.2 spec_l12Fit.B8 = true := by kernel_rfl
set_option maxHeartbeats 8000000 in
set_option maxRecDepth 100000 in
theorem spec_l12Fit.calls (k : Nat) (a0_0 : Int) (a0_1 : Int) (P0_2_ : Nat → Prop) (A0_2 : Option Addr) (c0_2 : Nat) (l0_2 : List (S45)) (P0_3_ : Nat → Prop) (A0_3 : Option Addr) (c0_3 : Nat) (l0_3 : List (S45)) (r1 : Int) (r2 : Int) (r3 : List (S45)) (r4 : List (S45)) (r5 : List (S45)) (w : World) (hs0_2 : Kd.V k45 45 w w.heap.size (fun k_ => P0_2_ k_) (.slice A0_2 l0_2.length c0_2) l0_2) (hs0_3 : Kd.V k45 45 w w.heap.size (fun k_ => P0_3_ k_) (.slice A0_3 l0_3.length c0_3) l0_3) (h : spec_l12Fit.f k a0_0 a0_1 l0_2 l0_3 = some (r1, r2, r3, r4, r5)) :
  Calls Try.prog 81 #[.agg #[.int .i64 a0_0, .int .i64 a0_1, .slice A0_2 l0_2.length c0_2, .slice A0_3 l0_3.length c0_3]] w fun e w' => ∃ v2_ v3_ v4_ : Value, e = .returned (.tuple #[.agg #[.int .i64 r1, .int .i64 r2, v2_, v3_], v4_]) ∧ Kd.R k45 45 w' w.heap.size (fun k_ => (w.heap.size ≤ k_) ∧ some k_ ≠ (v3_ : Value).ownBlock ∧ some k_ ≠ (v4_ : Value).ownBlock) v2_ r3 ∧ Kd.R k45 45 w' w.heap.size (fun k_ => (w.heap.size ≤ k_) ∧ some k_ ≠ (v2_ : Value).ownBlock ∧ some k_ ≠ (v4_ : Value).ownBlock) v3_ r4 ∧ Kd.R k45 45 w' w.heap.size (fun k_ => (w.heap.size ≤ k_) ∧ some k_ ≠ (v2_ : Value).ownBlock ∧ some k_ ≠ (v3_ : Value).ownBlock) v4_ r5 ∧ Below w.heap.size w w' := by
 have hu28 := Try.underlying28
 have hu45 := Try.underlying45
 have HO0_2 := ak (show Kd.V k45 45 w w.heap.size (fun k_ => ((P0_2_ k_ ∨ P0_3_ k_) ∨ w.heap.size ≤ k_)) (.slice A0_2 l0_2.length c0_2) l0_2 from Kd.V_mono hs0_2 (fun k_ hk => .inl (.inl hk)))
 have HO0_3 := ak (show Kd.V k45 45 w w.heap.size (fun k_ => ((P0_2_ k_ ∨ P0_3_ k_) ∨ w.heap.size ≤ k_)) (.slice A0_3 l0_3.length c0_3) l0_3 from Kd.V_mono hs0_3 (fun k_ hk => .inl (.inr hk)))
 have HB := ak (Below.refl w.heap.size w)
 have H : (spec_l12Fit.l0 k (l0_3.length : Int) a0_0 a0_1 l0_2 l0_3) = some (r1, r2, r3, r4, r5) := h
 clear h
 have HC2 := ak H
 clear H
 go_enter Try.func81, Try.ntmps81
 go_upto_block 0 with (first | (refine bE 1 #[.int .i64 a0_0, .int .i64 a0_1, .slice A0_2 l0_2.length c0_2, .slice A0_3 l0_3.length c0_3] 28 ?_; intro gb201 hg w3 hbox hb; replace HO0_2 := ak (Kd.V_below (Kd.V_elderB (by (with_reducible repeat (first | apply Kd.V_alloc | apply Kd.V_drewN | apply Kd.V_drew)); exact HO0_2.out) gb201 (Nat.le_of_eq hg.symm)) hb); replace HO0_3 := ak (Kd.V_below (Kd.V_elderB (by (with_reducible repeat (first | apply Kd.V_alloc | apply Kd.V_drewN | apply Kd.V_drew)); exact HO0_3.out) gb201 (Nat.le_of_eq hg.symm)) hb); have BK201 := ak hbox; have GW201 := gs hg (bl HB.out); have GE201 := gs hg (bl HB.out); replace HB := ak (below_step (bl HB.out) hb); clear hb hbox hg) | (refine bE 2 #[.int .i64 0, .int .i64 0, .slice none 0 0, .slice none 0 0] 28 ?_; intro gb202 hg w4 hbox hb; replace HO0_2 := ak (Kd.V_below (Kd.V_elderB (by (with_reducible repeat (first | apply Kd.V_alloc | apply Kd.V_drewN | apply Kd.V_drew)); exact HO0_2.out) gb202 (Nat.le_of_eq hg.symm)) hb); replace HO0_3 := ak (Kd.V_below (Kd.V_elderB (by (with_reducible repeat (first | apply Kd.V_alloc | apply Kd.V_drewN | apply Kd.V_drew)); exact HO0_3.out) gb202 (Nat.le_of_eq hg.symm)) hb); have BK202 := ak hbox; have GW202 := gs hg (bl1 HB.out GE201.out); have GE202 := gs hg (bl1 HB.out GE201.out); replace HB := ak (below_step (bl1 HB.out GE201.out) hb); have NB201_202 := nl hg BK201.out; have NB202_201 := ng hg BK201.out; replace BK201 := ak (blk_below (bk BK201.out) hb); clear hb hbox hg; have hnb5 := NB201_202.out; have hnc5 := NB202_201.out; obtain ⟨hcz6_0, hcz6_1, hcz6_2, hcz6_3, hfz6_0, hfz6_1, hfz6_2, hfz6_3⟩ := b4 BK201.out))
 (try simp only [Act.put, List.setIfInBounds_toArray, List.set_cons_zero, List.set_cons_succ])
 go_cut [] (fun wc => ∃ (kq : Nat) (x202002_1 : List (S45)) (x202003_1 : List (S45)) (u202002 : Value) (u202003 : Value), Aside0 (spec_l12Fit.j1 kq a0_0 a0_1 x202002_1 x202003_1 = some (r1, r2, r3, r4, r5)) ∧ Aside0 (kq ≤ k) ∧ Aside0 (Kd.V k45 45 wc w.heap.size (fun k_ => ((P0_2_ k_ ∨ P0_3_ k_) ∨ w.heap.size ≤ k_) ∧ k_ ≠ gb201 ∧ k_ ≠ gb202) u202002 x202002_1) ∧ Aside0 (Kd.V k45 45 wc w.heap.size (fun k_ => ((P0_2_ k_ ∨ P0_3_ k_) ∨ w.heap.size ≤ k_) ∧ k_ ≠ gb201 ∧ k_ ≠ gb202) u202003 x202003_1) ∧ Aside0 (wc.heap[gb201]? = some (.cells #[.int .i64 a0_0, .int .i64 a0_1, u202002, u202003] 28 (0, 0))) ∧ Aside0 (wc.heap[gb202]? = some (.cells #[.int .i64 0, .int .i64 0, (.slice none 0 0), (.slice none 0 0)] 28 (0, 0))) ∧ Aside0 (Below w.heap.size w wc))
 case first =>
  have H := HC2.out
  clear HC2
  have H' := ak H
  clear H
  go_wp2
  go_loopg [4] k (fun kq v4 w' => ∃ (x4_1 : Int) (x202002_1 : List (S45)) (x202003_1 : List (S45)) (u202002 : Value) (u202003 : Value), v4 = .int .i64 x4_1 ∧ Aside0 (spec_l12Fit.l0 kq x4_1 a0_0 a0_1 x202002_1 x202003_1 = some (r1, r2, r3, r4, r5)) ∧ Aside0 (kq ≤ k) ∧ Aside0 (Kd.V k45 45 w' w.heap.size (fun k_ => ((P0_2_ k_ ∨ P0_3_ k_) ∨ w.heap.size ≤ k_) ∧ k_ ≠ gb201 ∧ k_ ≠ gb202) u202002 x202002_1) ∧ Aside0 (Kd.V k45 45 w' w.heap.size (fun k_ => ((P0_2_ k_ ∨ P0_3_ k_) ∨ w.heap.size ≤ k_) ∧ k_ ≠ gb201 ∧ k_ ≠ gb202) u202003 x202003_1) ∧ Aside0 (w'.heap[gb201]? = some (.cells #[.int .i64 a0_0, .int .i64 a0_1, u202002, u202003] 28 (0, 0))) ∧ Aside0 (w'.heap[gb202]? = some (.cells #[.int .i64 0, .int .i64 0, (.slice none 0 0), (.slice none 0 0)] 28 (0, 0))) ∧ Aside0 (Below w.heap.size w w'))
  case atStart => exact ⟨((l0_3.length : Int)), (l0_2), (l0_3), (.slice A0_2 l0_2.length c0_2), (.slice A0_3 l0_3.length c0_3), (by first | rfl | (simp; done) | (simp [*]; done)), H', ⟨Nat.le_refl _⟩, ⟨by (with_reducible repeat (first | apply Kd.V_alloc | apply Kd.V_drewN | apply Kd.V_drew)); exact Kd.V_mono HO0_2.out (fun _ hk => ⟨hk.1.1, ⟨hk.1.2, hk.2⟩⟩)⟩, ⟨by (with_reducible repeat (first | apply Kd.V_alloc | apply Kd.V_drewN | apply Kd.V_drew)); exact Kd.V_mono HO0_3.out (fun _ hk => ⟨hk.1.1, ⟨hk.1.2, hk.2⟩⟩)⟩, ⟨bk BK201.out⟩, ⟨bk BK202.out⟩, ⟨bl2 HB.out GE201.out GE202.out⟩⟩
  case round =>
   clear H'
   try clear p2
   try clear c5
   try clear hcz6_0
   try clear hcz6_1
   try clear hcz6_2
   try clear hcz6_3
   try clear hfz6_0
   try clear hfz6_1
   try clear hfz6_2
   try clear hfz6_3
   obtain ⟨x4_1, x202002_1, x202003_1, u202002, u202003, rfl, HA, HK1, HO_202002, HO_202003, BK201, BK202, HB⟩ := hrel
   cases gk with
   | zero => exact absurd HA.out (by simp [spec_l12Fit.l0])
   | succ k1 =>
    have H := HA.out
    clear HA
    simp only [spec_l12Fit.l0] at H
    by_cases c7 : x4_1 > 0
    ·rw [if_pos c7] at H
     have c7b0 : decide (0 < x4_1) = true := decide_eq_true c7
     clear c7
     (first | rw [c7b0] | (simp only [i64_w, i32_w]; rw [c7b0]) | skip)
     by_cases c8 : x4_1 > 60
     ·rw [if_pos c8] at H
      have c8b0 : decide (60 < x4_1) = true := decide_eq_true c8
      clear c8
      obtain ⟨ji9, hji9⟩ : ∃ j_ : Int, (wrap64 (x4_1 - 1)) = j_ := ⟨_, rfl⟩
      replace H : (if 0 ≤ (ji9) then (if (ji9) < (x202003_1.length : Int) then ((spec_l12Ahead.f x202002_1 ((rd_T45 x202003_1 (ji9)).f0) ((rd_T45 x202003_1 (ji9)).f1)).bind fun t204 => (if (ji9) ≤ (x202003_1.length : Int) then (spec_l12Fit.l0 k1 ji9 a0_0 a0_1 t204 (x202003_1.take ((ji9) : Int).toNat)) else (none))) else (none)) else (none)) = some (r1, r2, r3, r4, r5) := by first | (rw [hji9] at H; exact H) | (simp only [hji9] at H ⊢; exact H)
      have hji9w : (IntKind.i64.wrap (x4_1 - 1)) = ji9 := (i64_w _).trans hji9
      by_cases c10 : 0 ≤ (ji9)
      ·rw [if_pos c10] at H
       have c10b0 : decide (0 ≤ (ji9)) = true := decide_eq_true c10
       clear c10
       by_cases c11 : (ji9) < (x202003_1.length : Int)
       ·rw [if_pos c11] at H
        have c11b0 : decide ((ji9) < (x202003_1.length : Int)) = true := decide_eq_true c11
        clear c11
        replace H := Option.bind_eq_some_iff.mp H
        obtain ⟨t204, A120, H⟩ := H
        try dsimp only at H
        have A12 := ak A120
        clear A120
        have c13b0 := eq_true (od : 0 ≤ (ji9))
        by_cases c14 : (ji9) ≤ (x202003_1.length : Int)
        ·rw [if_pos c14] at H
         have c14b0 := eq_true c14
         have c14b1 : decide ((ji9) ≤ (x202003_1.length : Int)) = true := decide_eq_true c14
         clear c14
         obtain ⟨y207, hy207⟩ : ∃ y_ : List (S45), y_ = (x202003_1.take ((ji9) : Int).toNat) := ⟨_, rfl⟩
         replace H : (spec_l12Fit.l0 k1 ji9 a0_0 a0_1 t204 y207) = some (r1, r2, r3, r4, r5) := by first | (rw [hy207]; with_reducible exact H) | (have H2_ := (Option.bind_some _ _).symm.trans H; rw [hy207]; with_reducible exact H2_) | (have H2_ := (Option.bind_some _ _).symm.trans H; with_reducible exact H2_) | with_reducible exact H | (rw [hy207]; exact H) | exact H
         have Ny207 := ak hy207
         clear hy207
         have H' := ak H
         clear H
         try go_wp2
         replace HO_202002 := ak (Kd.V_drew HO_202002.out)
         replace HO_202003 := ak (Kd.V_drew HO_202003.out)
         replace BK201 := ak (blk_drew BK201.out)
         replace BK202 := ak (blk_drew BK202.out)
         replace HB := ak (below_drew1 HB.out)
         refine start_ (n := 14) (S := fun w' => True) (ds := []) #[false, false, false, false, false, false, false, false, false, false, false, false, false, false] (by kernel_rfl) rfl rfl trivial (fun hHeld => ?_); refine with_tabW spec_l12Fit.tab2 spec_l12Fit.bits2 (fun HT_ HW_ => ?_)
         generalize wr.drew = w15 at HO_202002 HO_202003 BK201 BK202 HB hHeld ⊢
         refine pu 0 (some 10) HT_ ?_
         refine pu 1 (some 11) HT_ ?_
         refine pu 2 (some 12) HT_ ?_
         refine pu 3 (some 13) HT_ ?_
         refine pu 4 (some 14) HT_ ?_
         refine pu 5 (some 15) HT_ ?_
         refine pn 6 (some 16) HT_ ?_
         refine pn 7 (some 17) HT_ ?_
         refine pn 8 (some 18) HT_ ?_
         refine pn 9 (some 19) HT_ ?_
         refine pn 10 (some 20) HT_ ?_
         refine pn 11 (some 21) HT_ ?_
         refine pu 12 (some 22) HT_ ?_
         refine pu 13 (some 23) HT_ ?_
         refine done_ (done_of HT_.out (by kernel_rfl)) ?_
         try go_wp2
         replace HO_202002 := ak (Kd.V_drew HO_202002.out)
         replace HO_202003 := ak (Kd.V_drew HO_202003.out)
         replace BK201 := ak (blk_drew BK201.out)
         replace BK202 := ak (blk_drew BK202.out)
         replace HB := ak (below_drew1 HB.out)
         obtain ⟨Ao17, co17, eo17⟩ := Kd.V_slice HO_202003.out
         (first | subst eo17 | (injection eo17 with f1_ f2_ f3_; have f4_ := f1_.symm; have f5_ := f3_.symm; clear f1_ f2_ f3_; subst f4_; subst f5_))
         have p203 : 0 ≤ ((ji9) : Int) := od
         have q203 : (ji9) < (x202003_1.length : Int) := od
         obtain ⟨ad203, e203, hx203_0, hx203_1⟩ := at_T45 (Kd.V_reads' HO_202003.out).2.2 (ji9) p203 q203
         cases e203
         replace p203 := eq_true p203
         replace q203 := eq_true q203
         obtain ⟨Ao18, co18, eo18⟩ := Kd.V_slice HO_202002.out
         (first | subst eo18 | (injection eo18 with f1_ f2_ f3_; have f4_ := f1_.symm; have f5_ := f3_.symm; clear f1_ f2_ f3_; subst f4_; subst f5_))
         refine start_ (n := 11) (S := fun w' => w'.cell? ⟨gb201, 0, none⟩ = some (.int .i64 a0_0) ∧ w'.cell? ⟨gb201, 1, none⟩ = some (.int .i64 a0_1) ∧ w'.cell? ⟨gb201, 2, none⟩ = some (.slice Ao18 x202002_1.length co18) ∧ w'.cell? ⟨gb201, 3, none⟩ = some (.slice (some ad203) x202003_1.length co17) ∧ w'.cell? (ad203.add (((ji9)).toNat * 2)) = some (.string ((rd_T45 x202003_1 (ji9)).f0)) ∧ w'.cell? ⟨(ad203.add (((ji9)).toNat * 2)).block, (ad203.add (((ji9)).toNat * 2)).off + 1, none⟩ = some (.string ((rd_T45 x202003_1 (ji9)).f1))) (ds := [10]) #[false, false, false, false, false, false, false, false, false, false, false] (by kernel_rfl) rfl rfl ⟨(blk_cell BK201.out 0).trans rfl, (blk_cell BK201.out 1).trans rfl, (blk_cell BK201.out 2).trans rfl, (blk_cell BK201.out 3).trans rfl, hx203_0, hx203_1⟩ (fun hHeld => ?_); refine with_tabW spec_l12Fit.tab4 spec_l12Fit.bits4 (fun HT_ HW_ => ?_)
         generalize w15.drew = w16 at HO_202002 HO_202003 BK201 BK202 HB hx203_0 hx203_1 hHeld ⊢
         refine pu 0 (some 26) HT_ ?_
         refine pu 2 (some 28) HT_ ?_
         refine pu 4 (some 30) HT_ ?_
         refine pu 5 (some 31) HT_ ?_
         refine tk 1 (some 27) HT_ HW_ hHeld ?_
         refine tk 3 (some 29) HT_ HW_ hHeld ?_
         refine pu 6 (some 32) HT_ ?_
         refine tk 7 (some 33) HT_ HW_ hHeld ?_
         refine on 8 (some 34) HT_ (fun K hK => ?_)
         refine goes_ Try.func80 (by kernel_rfl) rfl #[.slice Ao18 x202002_1.length co18, .agg #[.string ((rd_T45 x202003_1 (ji9)).f0), .string ((rd_T45 x202003_1 (ji9)).f1)]] (by rfl) rfl rfl (by (try simp only [List.map_toArray, List.map_cons, List.map_nil]); first | done | (simp only [hji9]; rfl) | rfl | (simp only [List.length_drop, List.length_take]; rfl)) ?_
         with_reducible refine (spec_l12Ahead.calls _ _ x202002_1 ((rd_T45 x202003_1 (ji9)).f0) ((rd_T45 x202003_1 (ji9)).f1) t204 _ ?side1 ?side2 A12.out).mono ?_
         (case side1 => exact kc (Kd.V_reads' HO_202002.out).2.2)
         (case side2 => exact (Kd.V_reads' HO_202002.out).2.1)
         rintro e w19 ⟨v205, rfl, ho0, hb⟩
         have HS4_ := (hb.cell (World.block_lt_of_cell? _ _ (hHeld.2.2.2.2.1))).trans (hHeld.2.2.2.2.1)
         have HS5_ := (hb.cell (World.block_lt_of_cell? _ _ (hHeld.2.2.2.2.2))).trans (hHeld.2.2.2.2.2)
         refine ⟨_, rfl, ?_⟩
         replace HO_202002 := ak (Kd.V_elder' (by (with_reducible repeat (first | apply Kd.V_alloc | apply Kd.V_drewN | apply Kd.V_drew)); exact HO_202002.out) (Kd.R_base ho0) hb)
         replace HO_202003 := ak (Kd.V_elder' (by (with_reducible repeat (first | apply Kd.V_alloc | apply Kd.V_drewN | apply Kd.V_drew)); exact HO_202003.out) (Kd.R_base ho0) hb)
         have HO206 := ak (Kd.R_lower (Kd.R_newM (M := fun k_ => (w.heap.size ≤ k_)) ho0 (below_size (bl2 HB.out GE201.out GE202.out)) (fun k_ h_ => h_)) (below_size (bl2 HB.out GE201.out GE202.out)))
         replace BK201 := ak (blk_below (bk BK201.out) hb)
         replace BK202 := ak (blk_below (bk BK202.out) hb)
         replace HB := ak (below_step (bl2 HB.out GE201.out GE202.out) hb)
         clear hb
         (try clear hb2)
         (try clear hk)
         (try clear hi)
         clear ho0
         obtain ⟨Ao20, co20, eo20⟩ := Kd.R_slice HO206.out
         (first | subst eo20 | (injection eo20 with f1_ f2_ f3_; have f4_ := f1_.symm; have f5_ := f3_.symm; clear f1_ f2_ f3_; subst f4_; subst f5_))
         refine hK.out _ _ ⟨(blk_cell BK201.out 0).trans rfl, (blk_cell BK201.out 1).trans rfl, (blk_cell BK201.out 2).trans rfl, (blk_cell BK201.out 3).trans rfl, HS4_, HS5_⟩ (fun hHeld => ?_)
         clear hK K
         refine norm_ (a' := ?_) ?_ ?_
         rotate_left
         ·show Act.put _ (some 34) _ = _
          simp only [Act.put, List.setIfInBounds_toArray, List.set_cons_zero, List.set_cons_succ, i64_w, i32_w]
          rfl
         refine pu 9 (some 35) HT_ ?_
         refine last_ (i := 10) (N := none) #[true, true, true, true, true, true, true, true, true, true, true] rfl rfl (one_of HT_.out (by kernel_rfl)) (by decide) (fun K hK => ?_)
         have hs21 := bc2 BK201.out
         have hfs21 := blk_frozen BK201.out 2
         have hns21_1 := NB202_201.out
         have hms21_1 := NB201_202.out
         refine skip_ (w1 := ?_) (by rfl) rfl ?_ ?_
         rotate_left
         ·go_simp
          rfl
         refine hK.out _ _ ?_
         clear hK K
         refine done_ (done_of HT_.out (by kernel_rfl)) ?_
         have n0_ : Aside0 (Kd.V k45 45 (w19.setCell ⟨gb201, 2, none⟩ (.slice Ao20 t204.length co20)) w.heap.size (fun k_ => ((P0_2_ k_ ∨ P0_3_ k_) ∨ w.heap.size ≤ k_) ∧ some k_ ≠ (.slice Ao20 t204.length co20 : Value).ownBlock ∧ k_ ≠ gb201 ∧ k_ ≠ gb202) (.slice Ao18 x202002_1.length co18) x202002_1) := ⟨by (with_reducible repeat (first | apply Kd.V_alloc | apply Kd.V_drewN | apply Kd.V_drew)); exact Kd.V_mono (Kd.V_far (p := ⟨gb201, 2, none⟩) (Kd.V_mono HO_202002.out (fun k_ hk => (⟨hk, hk.1.2.1⟩ : _ ∧ k_ ≠ gb201))) (fun _ hk => hk.2) (.slice Ao20 t204.length co20)) (fun _ hk => ⟨hk.1.1.1, ⟨hk.1.2, ⟨hk.1.1.2.1, hk.1.1.2.2⟩⟩⟩)⟩
         have n1_ : Aside0 (Kd.V k45 45 (w19.setCell ⟨gb201, 2, none⟩ (.slice Ao20 t204.length co20)) w.heap.size (fun k_ => ((P0_2_ k_ ∨ P0_3_ k_) ∨ w.heap.size ≤ k_) ∧ some k_ ≠ (.slice Ao20 t204.length co20 : Value).ownBlock ∧ k_ ≠ gb201 ∧ k_ ≠ gb202) (.slice (some ad203) x202003_1.length co17) x202003_1) := ⟨by (with_reducible repeat (first | apply Kd.V_alloc | apply Kd.V_drewN | apply Kd.V_drew)); exact Kd.V_mono (Kd.V_far (p := ⟨gb201, 2, none⟩) (Kd.V_mono HO_202003.out (fun k_ hk => (⟨hk, hk.1.2.1⟩ : _ ∧ k_ ≠ gb201))) (fun _ hk => hk.2) (.slice Ao20 t204.length co20)) (fun _ hk => ⟨hk.1.1.1, ⟨hk.1.2, ⟨hk.1.1.2.1, hk.1.1.2.2⟩⟩⟩)⟩
         have n2_ : Aside0 (Kd.R k45 45 (w19.setCell ⟨gb201, 2, none⟩ (.slice Ao20 t204.length co20)) w.heap.size (fun k_ => (w.heap.size ≤ k_)) (.slice Ao20 t204.length co20) t204) := ⟨by (with_reducible repeat (first | apply Kd.R_alloc | apply Kd.R_drewN | apply Kd.R_drew)); exact Kd.R_mono (Kd.R_far (p := ⟨gb201, 2, none⟩) (Kd.R_types HO206.out BK201.out (by decide)) (fun _ hk => hk.2) (.slice Ao20 t204.length co20)) (fun _ hk => hk.1.1)⟩
         have n3_ : Aside0 ((w19.setCell ⟨gb201, 2, none⟩ (.slice Ao20 t204.length co20)).heap[gb201]? = some (.cells #[.int .i64 a0_0, .int .i64 a0_1, .slice Ao20 t204.length co20, .slice (some ad203) x202003_1.length co17] 28 (0, 0))) := ⟨by (with_reducible repeat (first | refine blk_drewN ?_ _ | refine blk_drew ?_ | refine blk_alloc ?_ _)); refine blk_put (cs := #[.int .i64 a0_0, .int .i64 a0_1, .slice Ao18 x202002_1.length co18, .slice (some ad203) x202003_1.length co17]) ?_ 2 _ rfl; exact bk BK201.out⟩
         have n4_ : Aside0 ((w19.setCell ⟨gb201, 2, none⟩ (.slice Ao20 t204.length co20)).heap[gb202]? = some (.cells #[.int .i64 0, .int .i64 0, .slice none 0 0, .slice none 0 0] 28 (0, 0))) := ⟨by (with_reducible repeat (first | refine blk_drewN ?_ _ | refine blk_drew ?_ | refine blk_alloc ?_ _)); refine blk_far ?_ NB202_201.out _; exact bk BK202.out⟩
         have n5_ : Aside0 (Below w.heap.size w (w19.setCell ⟨gb201, 2, none⟩ (.slice Ao20 t204.length co20))) := ⟨bl2 HB.out GE201.out GE202.out⟩
         (try clear HO_202002)
         (try clear HO_202003)
         (try clear HO206)
         (try clear BK201)
         (try clear BK202)
         (try clear HB)
         generalize (w19.setCell ⟨gb201, 2, none⟩ (.slice Ao20 t204.length co20)) = w22 at n0_ n1_ n2_ n3_ n4_ n5_ ⊢
         have HO_202002 := n0_
         have HO_202003 := n1_
         have HO206 := n2_
         have BK201 := n3_
         have BK202 := n4_
         have HB := n5_
         clear n0_ n1_ n2_ n3_ n4_ n5_
         have hnb23 := NB201_202.out
         have hnc23 := NB202_201.out
         obtain ⟨hcz24_0, hcz24_1, hcz24_2, hcz24_3, hfz24_0, hfz24_1, hfz24_2, hfz24_3⟩ := b4 BK201.out
         have q25 : ((ji9) : Int) ≤ ((x202003_1.length : Int) : Int) := od
         obtain ⟨i025, hi025, _, hsz25, _⟩ := info_parts info45
         have hroom25 : x202003_1.length ≤ co17 := (Kd.V_reads' HO_202003.out).2.1
         have hC25 : Kd.F k45 _ _ (some ad203) x202003_1.length x202003_1 := (Kd.V_at (base := w.heap.size) HO_202003.out).2.2
         have hcut25 := cut_to (P := Try.prog) 26 45 .i64 Try.underlying26 hi025 (some ad203) x202003_1.length co17 (ji9) (od) q25 hroom25
         have hr25 := Kd.F_take (m := ((ji9) : Int).toNat) hC25 (by omega)
         have hy25 : y207.length = ((ji9) : Int).toNat := (by rw [Ny207.out, List.length_take]; omega)
         rw [← Ny207.out] at hr25
         rw [← hy25] at hcut25
         have HO211 := ak (show Kd.V k45 45 _ w.heap.size _ (.slice (some ad203) y207.length co17) y207 from Kd.V_mk (by omega) hr25)
         have HC211 := ak (show y207.length ≤ co17 from by omega)
         clear hr25 hC25 hroom25 hi025 hsz25
         have KY25 := ak hy25
         clear hy25
         replace q25 := eq_true q25
         try go_wp2
         go_roundg k1
         case measure => have := HK1.out; omega
         case rel => exact ⟨(ji9), (t204), (y207), (.slice Ao20 t204.length co20), (.slice (some ad203) y207.length co17), (by first | rfl | (simp; done) | (simp only [← hji9] <;> (first | rfl | simp)) | (simp [*]; done)), H', ⟨by have := HK1.out; omega⟩, ⟨Kd.V_mono (Kd.R_V (by (with_reducible repeat (first | apply Kd.R_alloc | apply Kd.R_drewN | apply Kd.R_drew)); exact Kd.R_mono (ok' := fun k_ => w.heap.size ≤ k_ ∧ (k_ ≠ gb201 ∧ k_ ≠ gb202)) (Kd.R_far (p := ⟨gb201, 3, none⟩) (Kd.R_types (Kd.R_types (Kd.R_types HO206.out BK201.out (by decide)) BK202.out (by decide)) BK201.out (by decide)) (fun _ hk => hk.2) (.slice (some ad203) y207.length co17)) (fun _ hk => ⟨hk.1.1.1, ⟨hk.1.1.2, hk.1.2⟩⟩))) (fun k_ hk => by first | exact ⟨(.inr (hk.1)), hk.2⟩ | exact (.inr (hk)))⟩, ⟨by (with_reducible repeat (first | apply Kd.V_alloc | apply Kd.V_drewN | apply Kd.V_drew)); exact Kd.V_mono (Kd.V_far (p := ⟨gb201, 3, none⟩) (Kd.V_mono HO211.out (fun k_ hk => (⟨hk, hk.2.2.1⟩ : _ ∧ k_ ≠ gb201))) (fun _ hk => hk.2) (.slice (some ad203) y207.length co17)) (fun _ hk => ⟨hk.1.1, ⟨hk.1.2.2.1, hk.1.2.2.2⟩⟩)⟩, ⟨by (with_reducible repeat (first | refine blk_drewN ?_ _ | refine blk_drew ?_ | refine blk_alloc ?_ _)); refine blk_put (cs := #[.int .i64 a0_0, .int .i64 a0_1, .slice Ao20 t204.length co20, .slice (some ad203) x202003_1.length co17]) ?_ 3 _ rfl; exact bk BK201.out⟩, ⟨by (with_reducible repeat (first | refine blk_drewN ?_ _ | refine blk_drew ?_ | refine blk_alloc ?_ _)); refine blk_far ?_ NB202_201.out _; exact bk BK202.out⟩, ⟨bl2 HB.out GE201.out GE202.out⟩⟩
        ·rw [if_neg c14] at H
         exact absurd H (by simp)
       ·rw [if_neg c11] at H
        exact absurd H (by simp)
      ·rw [if_neg c10] at H
       exact absurd H (by simp)
     ·rw [if_neg c8] at H
      have c8b0 : decide (60 < x4_1) = false := decide_eq_false c8
      clear c8
      replace H := Option.bind_eq_some_iff.mp H
      obtain ⟨t212, A260, H⟩ := H
      try dsimp only at H
      have A26 := ak A260
      clear A260
      by_cases c27 : t212 > a0_1
      ·rw [if_pos c27] at H
       have c27b0 : decide (a0_1 < t212) = true := decide_eq_true c27
       clear c27
       obtain ⟨ji28, hji28⟩ : ∃ j_ : Int, (wrap64 (x4_1 - 1)) = j_ := ⟨_, rfl⟩
       replace H : (if 0 ≤ (ji28) then (if (ji28) < (x202003_1.length : Int) then ((spec_l12Ahead.f x202002_1 ((rd_T45 x202003_1 (ji28)).f0) ((rd_T45 x202003_1 (ji28)).f1)).bind fun t214 => (if (ji28) ≤ (x202003_1.length : Int) then (spec_l12Fit.l0 k1 ji28 a0_0 a0_1 t214 (x202003_1.take ((ji28) : Int).toNat)) else (none))) else (none)) else (none)) = some (r1, r2, r3, r4, r5) := by first | (rw [hji28] at H; exact H) | (simp only [hji28] at H ⊢; exact H)
       (try rw [hji28] at A26)
       have hji28w : (IntKind.i64.wrap (x4_1 - 1)) = ji28 := (i64_w _).trans hji28
       by_cases c29 : 0 ≤ (ji28)
       ·rw [if_pos c29] at H
        have c29b0 : decide (0 ≤ (ji28)) = true := decide_eq_true c29
        clear c29
        by_cases c30 : (ji28) < (x202003_1.length : Int)
        ·rw [if_pos c30] at H
         have c30b0 : decide ((ji28) < (x202003_1.length : Int)) = true := decide_eq_true c30
         clear c30
         replace H := Option.bind_eq_some_iff.mp H
         obtain ⟨t214, A310, H⟩ := H
         try dsimp only at H
         have A31 := ak A310
         clear A310
         have c32b0 := eq_true (od : 0 ≤ (ji28))
         by_cases c33 : (ji28) ≤ (x202003_1.length : Int)
         ·rw [if_pos c33] at H
          have c33b0 := eq_true c33
          have c33b1 : decide ((ji28) ≤ (x202003_1.length : Int)) = true := decide_eq_true c33
          clear c33
          obtain ⟨y217, hy217⟩ : ∃ y_ : List (S45), y_ = (x202003_1.take ((ji28) : Int).toNat) := ⟨_, rfl⟩
          replace H : (spec_l12Fit.l0 k1 ji28 a0_0 a0_1 t214 y217) = some (r1, r2, r3, r4, r5) := by first | (rw [hy217]; with_reducible exact H) | (have H2_ := (Option.bind_some _ _).symm.trans H; rw [hy217]; with_reducible exact H2_) | (have H2_ := (Option.bind_some _ _).symm.trans H; with_reducible exact H2_) | with_reducible exact H | (rw [hy217]; exact H) | exact H
          have Ny217 := ak hy217
          clear hy217
          have H' := ak H
          clear H
          try go_wp2
          replace HO_202002 := ak (Kd.V_drew HO_202002.out)
          replace HO_202003 := ak (Kd.V_drew HO_202003.out)
          replace BK201 := ak (blk_drew BK201.out)
          replace BK202 := ak (blk_drew BK202.out)
          replace HB := ak (below_drew1 HB.out)
          obtain ⟨Ao35, co35, eo35⟩ := Kd.V_slice HO_202003.out
          (first | subst eo35 | (injection eo35 with f1_ f2_ f3_; have f4_ := f1_.symm; have f5_ := f3_.symm; clear f1_ f2_ f3_; subst f4_; subst f5_))
          refine start_ (n := 14) (S := fun w' => w'.cell? ⟨gb201, 0, none⟩ = some (.int .i64 a0_0) ∧ w'.cell? ⟨gb201, 1, none⟩ = some (.int .i64 a0_1) ∧ w'.cell? ⟨gb201, 2, none⟩ = some (u202002) ∧ w'.cell? ⟨gb201, 3, none⟩ = some (.slice Ao35 x202003_1.length co35)) (ds := []) #[false, false, false, false, false, false, false, false, false, false, false, false, false, false] (by kernel_rfl) rfl rfl ⟨(blk_cell BK201.out 0).trans rfl, (blk_cell BK201.out 1).trans rfl, (blk_cell BK201.out 2).trans rfl, (blk_cell BK201.out 3).trans rfl⟩ (fun hHeld => ?_); refine with_tabW spec_l12Fit.tab2 spec_l12Fit.bits2 (fun HT_ HW_ => ?_)
          generalize wr.drew = w34 at HO_202002 HO_202003 BK201 BK202 HB hHeld ⊢
          refine pu 0 (some 10) HT_ ?_
          refine pu 1 (some 11) HT_ ?_
          refine pu 2 (some 12) HT_ ?_
          refine pu 3 (some 13) HT_ ?_
          refine pu 4 (some 14) HT_ ?_
          refine pu 5 (some 15) HT_ ?_
          refine pu 6 (some 16) HT_ ?_
          refine pu 9 (some 19) HT_ ?_
          refine tk 7 (some 17) HT_ HW_ hHeld ?_
          refine tk 10 (some 20) HT_ HW_ hHeld ?_
          refine on 8 (some 18) HT_ (fun K hK => ?_)
          refine gO Try.func85 #[.slice Ao35 x202003_1.length co35] ?_
          with_reducible refine (spec_l12Weight.calls k1 _ _ x202003_1 t212 _ ?side1 ?side2 A26.out).mono ?_
          (case side1 => exact kc (Kd.V_reads' HO_202003.out).2.2)
          (case side2 => exact (Kd.V_reads' HO_202003.out).2.1)
          rintro e w36 ⟨rfl, hb⟩
          refine ⟨_, rfl, ?_⟩
          replace HO_202002 := ak (Kd.V_below (by (with_reducible repeat (first | apply Kd.V_alloc | apply Kd.V_drewN | apply Kd.V_drew)); exact HO_202002.out) hb)
          replace HO_202003 := ak (Kd.V_below (by (with_reducible repeat (first | apply Kd.V_alloc | apply Kd.V_drewN | apply Kd.V_drew)); exact HO_202003.out) hb)
          replace BK201 := ak (blk_below (bk BK201.out) hb)
          replace BK202 := ak (blk_below (bk BK202.out) hb)
          replace HB := ak (below_step (bl2 HB.out GE201.out GE202.out) hb)
          clear hb
          (try clear hb2)
          (try clear hk)
          (try clear hi)
          refine hK.out _ _ ⟨(blk_cell BK201.out 0).trans rfl, (blk_cell BK201.out 1).trans rfl, (blk_cell BK201.out 2).trans rfl, (blk_cell BK201.out 3).trans rfl⟩ (fun hHeld => ?_)
          clear hK K
          refine norm_ (a' := ?_) ?_ ?_
          rotate_left
          ·show Act.put _ (some 18) _ = _
           simp only [Act.put, List.setIfInBounds_toArray, List.set_cons_zero, List.set_cons_succ, i64_w, i32_w]
           rfl
          refine pu 11 (some 21) HT_ ?_
          refine pu 12 (some 22) HT_ ?_
          refine pu 13 (some 23) HT_ ?_
          refine done_ (done_of HT_.out (by kernel_rfl)) ?_
          try go_wp2
          replace HO_202002 := ak (Kd.V_drew HO_202002.out)
          replace HO_202003 := ak (Kd.V_drew HO_202003.out)
          replace BK201 := ak (blk_drew BK201.out)
          replace BK202 := ak (blk_drew BK202.out)
          replace HB := ak (below_drew1 HB.out)
          have p213 : 0 ≤ ((ji28) : Int) := od
          have q213 : (ji28) < (x202003_1.length : Int) := od
          obtain ⟨ad213, e213, hx213_0, hx213_1⟩ := at_T45 (Kd.V_reads' HO_202003.out).2.2 (ji28) p213 q213
          cases e213
          replace p213 := eq_true p213
          replace q213 := eq_true q213
          obtain ⟨Ao38, co38, eo38⟩ := Kd.V_slice HO_202002.out
          (first | subst eo38 | (injection eo38 with f1_ f2_ f3_; have f4_ := f1_.symm; have f5_ := f3_.symm; clear f1_ f2_ f3_; subst f4_; subst f5_))
          refine start_ (n := 11) (S := fun w' => w'.cell? ⟨gb201, 0, none⟩ = some (.int .i64 a0_0) ∧ w'.cell? ⟨gb201, 1, none⟩ = some (.int .i64 a0_1) ∧ w'.cell? ⟨gb201, 2, none⟩ = some (.slice Ao38 x202002_1.length co38) ∧ w'.cell? ⟨gb201, 3, none⟩ = some (.slice (some ad213) x202003_1.length co35) ∧ w'.cell? (ad213.add (((ji28)).toNat * 2)) = some (.string ((rd_T45 x202003_1 (ji28)).f0)) ∧ w'.cell? ⟨(ad213.add (((ji28)).toNat * 2)).block, (ad213.add (((ji28)).toNat * 2)).off + 1, none⟩ = some (.string ((rd_T45 x202003_1 (ji28)).f1))) (ds := [10]) #[false, false, false, false, false, false, false, false, false, false, false] (by kernel_rfl) rfl rfl ⟨(blk_cell BK201.out 0).trans rfl, (blk_cell BK201.out 1).trans rfl, (blk_cell BK201.out 2).trans rfl, (blk_cell BK201.out 3).trans rfl, hx213_0, hx213_1⟩ (fun hHeld => ?_); refine with_tabW spec_l12Fit.tab4 spec_l12Fit.bits4 (fun HT_ HW_ => ?_)
          generalize w36.drew = w37 at HO_202002 HO_202003 BK201 BK202 HB hx213_0 hx213_1 hHeld ⊢
          refine pu 0 (some 26) HT_ ?_
          refine pu 2 (some 28) HT_ ?_
          refine pu 4 (some 30) HT_ ?_
          refine pu 5 (some 31) HT_ ?_
          refine tk 1 (some 27) HT_ HW_ hHeld ?_
          refine tk 3 (some 29) HT_ HW_ hHeld ?_
          refine pu 6 (some 32) HT_ ?_
          refine tk 7 (some 33) HT_ HW_ hHeld ?_
          refine on 8 (some 34) HT_ (fun K hK => ?_)
          refine goes_ Try.func80 (by kernel_rfl) rfl #[.slice Ao38 x202002_1.length co38, .agg #[.string ((rd_T45 x202003_1 (ji28)).f0), .string ((rd_T45 x202003_1 (ji28)).f1)]] (by rfl) rfl rfl (by (try simp only [List.map_toArray, List.map_cons, List.map_nil]); first | done | (simp only [hji28]; rfl) | rfl | (simp only [List.length_drop, List.length_take]; rfl)) ?_
          with_reducible refine (spec_l12Ahead.calls _ _ x202002_1 ((rd_T45 x202003_1 (ji28)).f0) ((rd_T45 x202003_1 (ji28)).f1) t214 _ ?side1 ?side2 A31.out).mono ?_
          (case side1 => exact kc (Kd.V_reads' HO_202002.out).2.2)
          (case side2 => exact (Kd.V_reads' HO_202002.out).2.1)
          rintro e w39 ⟨v215, rfl, ho0, hb⟩
          have HS4_ := (hb.cell (World.block_lt_of_cell? _ _ (hHeld.2.2.2.2.1))).trans (hHeld.2.2.2.2.1)
          have HS5_ := (hb.cell (World.block_lt_of_cell? _ _ (hHeld.2.2.2.2.2))).trans (hHeld.2.2.2.2.2)
          refine ⟨_, rfl, ?_⟩
          replace HO_202002 := ak (Kd.V_elder' (by (with_reducible repeat (first | apply Kd.V_alloc | apply Kd.V_drewN | apply Kd.V_drew)); exact HO_202002.out) (Kd.R_base ho0) hb)
          replace HO_202003 := ak (Kd.V_elder' (by (with_reducible repeat (first | apply Kd.V_alloc | apply Kd.V_drewN | apply Kd.V_drew)); exact HO_202003.out) (Kd.R_base ho0) hb)
          have HO216 := ak (Kd.R_lower (Kd.R_newM (M := fun k_ => (w.heap.size ≤ k_)) ho0 (below_size (bl2 HB.out GE201.out GE202.out)) (fun k_ h_ => h_)) (below_size (bl2 HB.out GE201.out GE202.out)))
          replace BK201 := ak (blk_below (bk BK201.out) hb)
          replace BK202 := ak (blk_below (bk BK202.out) hb)
          replace HB := ak (below_step (bl2 HB.out GE201.out GE202.out) hb)
          clear hb
          (try clear hb2)
          (try clear hk)
          (try clear hi)
          clear ho0
          obtain ⟨Ao40, co40, eo40⟩ := Kd.R_slice HO216.out
          (first | subst eo40 | (injection eo40 with f1_ f2_ f3_; have f4_ := f1_.symm; have f5_ := f3_.symm; clear f1_ f2_ f3_; subst f4_; subst f5_))
          refine hK.out _ _ ⟨(blk_cell BK201.out 0).trans rfl, (blk_cell BK201.out 1).trans rfl, (blk_cell BK201.out 2).trans rfl, (blk_cell BK201.out 3).trans rfl, HS4_, HS5_⟩ (fun hHeld => ?_)
          clear hK K
          refine norm_ (a' := ?_) ?_ ?_
          rotate_left
          ·show Act.put _ (some 34) _ = _
           simp only [Act.put, List.setIfInBounds_toArray, List.set_cons_zero, List.set_cons_succ, i64_w, i32_w]
           rfl
          refine pu 9 (some 35) HT_ ?_
          refine last_ (i := 10) (N := none) #[true, true, true, true, true, true, true, true, true, true, true] rfl rfl (one_of HT_.out (by kernel_rfl)) (by decide) (fun K hK => ?_)
          have hs41 := bc2 BK201.out
          have hfs41 := blk_frozen BK201.out 2
          have hns41_1 := NB202_201.out
          have hms41_1 := NB201_202.out
          refine skip_ (w1 := ?_) (by rfl) rfl ?_ ?_
          rotate_left
          ·go_simp
           rfl
          refine hK.out _ _ ?_
          clear hK K
          refine done_ (done_of HT_.out (by kernel_rfl)) ?_
          have n0_ : Aside0 (Kd.V k45 45 (w39.setCell ⟨gb201, 2, none⟩ (.slice Ao40 t214.length co40)) w.heap.size (fun k_ => ((P0_2_ k_ ∨ P0_3_ k_) ∨ w.heap.size ≤ k_) ∧ some k_ ≠ (.slice Ao40 t214.length co40 : Value).ownBlock ∧ k_ ≠ gb201 ∧ k_ ≠ gb202) (.slice Ao38 x202002_1.length co38) x202002_1) := ⟨by (with_reducible repeat (first | apply Kd.V_alloc | apply Kd.V_drewN | apply Kd.V_drew)); exact Kd.V_mono (Kd.V_far (p := ⟨gb201, 2, none⟩) (Kd.V_mono HO_202002.out (fun k_ hk => (⟨hk, hk.1.2.1⟩ : _ ∧ k_ ≠ gb201))) (fun _ hk => hk.2) (.slice Ao40 t214.length co40)) (fun _ hk => ⟨hk.1.1.1, ⟨hk.1.2, ⟨hk.1.1.2.1, hk.1.1.2.2⟩⟩⟩)⟩
          have n1_ : Aside0 (Kd.V k45 45 (w39.setCell ⟨gb201, 2, none⟩ (.slice Ao40 t214.length co40)) w.heap.size (fun k_ => ((P0_2_ k_ ∨ P0_3_ k_) ∨ w.heap.size ≤ k_) ∧ some k_ ≠ (.slice Ao40 t214.length co40 : Value).ownBlock ∧ k_ ≠ gb201 ∧ k_ ≠ gb202) (.slice (some ad213) x202003_1.length co35) x202003_1) := ⟨by (with_reducible repeat (first | apply Kd.V_alloc | apply Kd.V_drewN | apply Kd.V_drew)); exact Kd.V_mono (Kd.V_far (p := ⟨gb201, 2, none⟩) (Kd.V_mono HO_202003.out (fun k_ hk => (⟨hk, hk.1.2.1⟩ : _ ∧ k_ ≠ gb201))) (fun _ hk => hk.2) (.slice Ao40 t214.length co40)) (fun _ hk => ⟨hk.1.1.1, ⟨hk.1.2, ⟨hk.1.1.2.1, hk.1.1.2.2⟩⟩⟩)⟩
          have n2_ : Aside0 (Kd.R k45 45 (w39.setCell ⟨gb201, 2, none⟩ (.slice Ao40 t214.length co40)) w.heap.size (fun k_ => (w.heap.size ≤ k_)) (.slice Ao40 t214.length co40) t214) := ⟨by (with_reducible repeat (first | apply Kd.R_alloc | apply Kd.R_drewN | apply Kd.R_drew)); exact Kd.R_mono (Kd.R_far (p := ⟨gb201, 2, none⟩) (Kd.R_types HO216.out BK201.out (by decide)) (fun _ hk => hk.2) (.slice Ao40 t214.length co40)) (fun _ hk => hk.1.1)⟩
          have n3_ : Aside0 ((w39.setCell ⟨gb201, 2, none⟩ (.slice Ao40 t214.length co40)).heap[gb201]? = some (.cells #[.int .i64 a0_0, .int .i64 a0_1, .slice Ao40 t214.length co40, .slice (some ad213) x202003_1.length co35] 28 (0, 0))) := ⟨by (with_reducible repeat (first | refine blk_drewN ?_ _ | refine blk_drew ?_ | refine blk_alloc ?_ _)); refine blk_put (cs := #[.int .i64 a0_0, .int .i64 a0_1, .slice Ao38 x202002_1.length co38, .slice (some ad213) x202003_1.length co35]) ?_ 2 _ rfl; exact bk BK201.out⟩
          have n4_ : Aside0 ((w39.setCell ⟨gb201, 2, none⟩ (.slice Ao40 t214.length co40)).heap[gb202]? = some (.cells #[.int .i64 0, .int .i64 0, .slice none 0 0, .slice none 0 0] 28 (0, 0))) := ⟨by (with_reducible repeat (first | refine blk_drewN ?_ _ | refine blk_drew ?_ | refine blk_alloc ?_ _)); refine blk_far ?_ NB202_201.out _; exact bk BK202.out⟩
          have n5_ : Aside0 (Below w.heap.size w (w39.setCell ⟨gb201, 2, none⟩ (.slice Ao40 t214.length co40))) := ⟨bl2 HB.out GE201.out GE202.out⟩
          (try clear HO_202002)
          (try clear HO_202003)
          (try clear HO216)
          (try clear BK201)
          (try clear BK202)
          (try clear HB)
          generalize (w39.setCell ⟨gb201, 2, none⟩ (.slice Ao40 t214.length co40)) = w42 at n0_ n1_ n2_ n3_ n4_ n5_ ⊢
          have HO_202002 := n0_
          have HO_202003 := n1_
          have HO216 := n2_
          have BK201 := n3_
          have BK202 := n4_
          have HB := n5_
          clear n0_ n1_ n2_ n3_ n4_ n5_
          have hnb43 := NB201_202.out
          have hnc43 := NB202_201.out
          obtain ⟨hcz44_0, hcz44_1, hcz44_2, hcz44_3, hfz44_0, hfz44_1, hfz44_2, hfz44_3⟩ := b4 BK201.out
          have q45 : ((ji28) : Int) ≤ ((x202003_1.length : Int) : Int) := od
          obtain ⟨i045, hi045, _, hsz45, _⟩ := info_parts info45
          have hroom45 : x202003_1.length ≤ co35 := (Kd.V_reads' HO_202003.out).2.1
          have hC45 : Kd.F k45 _ _ (some ad213) x202003_1.length x202003_1 := (Kd.V_at (base := w.heap.size) HO_202003.out).2.2
          have hcut45 := cut_to (P := Try.prog) 26 45 .i64 Try.underlying26 hi045 (some ad213) x202003_1.length co35 (ji28) (od) q45 hroom45
          have hr45 := Kd.F_take (m := ((ji28) : Int).toNat) hC45 (by omega)
          have hy45 : y217.length = ((ji28) : Int).toNat := (by rw [Ny217.out, List.length_take]; omega)
          rw [← Ny217.out] at hr45
          rw [← hy45] at hcut45
          have HO221 := ak (show Kd.V k45 45 _ w.heap.size _ (.slice (some ad213) y217.length co35) y217 from Kd.V_mk (by omega) hr45)
          have HC221 := ak (show y217.length ≤ co35 from by omega)
          clear hr45 hC45 hroom45 hi045 hsz45
          have KY45 := ak hy45
          clear hy45
          replace q45 := eq_true q45
          try go_wp2
          go_roundg k1
          case measure => have := HK1.out; omega
          case rel => exact ⟨(ji28), (t214), (y217), (.slice Ao40 t214.length co40), (.slice (some ad213) y217.length co35), (by first | rfl | (simp; done) | (simp only [← hji28] <;> (first | rfl | simp)) | (simp [*]; done)), H', ⟨by have := HK1.out; omega⟩, ⟨Kd.V_mono (Kd.R_V (by (with_reducible repeat (first | apply Kd.R_alloc | apply Kd.R_drewN | apply Kd.R_drew)); exact Kd.R_mono (ok' := fun k_ => w.heap.size ≤ k_ ∧ (k_ ≠ gb201 ∧ k_ ≠ gb202)) (Kd.R_far (p := ⟨gb201, 3, none⟩) (Kd.R_types (Kd.R_types (Kd.R_types HO216.out BK201.out (by decide)) BK202.out (by decide)) BK201.out (by decide)) (fun _ hk => hk.2) (.slice (some ad213) y217.length co35)) (fun _ hk => ⟨hk.1.1.1, ⟨hk.1.1.2, hk.1.2⟩⟩))) (fun k_ hk => by first | exact ⟨(.inr (hk.1)), hk.2⟩ | exact (.inr (hk)))⟩, ⟨by (with_reducible repeat (first | apply Kd.V_alloc | apply Kd.V_drewN | apply Kd.V_drew)); exact Kd.V_mono (Kd.V_far (p := ⟨gb201, 3, none⟩) (Kd.V_mono HO221.out (fun k_ hk => (⟨hk, hk.2.2.1⟩ : _ ∧ k_ ≠ gb201))) (fun _ hk => hk.2) (.slice (some ad213) y217.length co35)) (fun _ hk => ⟨hk.1.1, ⟨hk.1.2.2.1, hk.1.2.2.2⟩⟩)⟩, ⟨by (with_reducible repeat (first | refine blk_drewN ?_ _ | refine blk_drew ?_ | refine blk_alloc ?_ _)); refine blk_put (cs := #[.int .i64 a0_0, .int .i64 a0_1, .slice Ao40 t214.length co40, .slice (some ad213) x202003_1.length co35]) ?_ 3 _ rfl; exact bk BK201.out⟩, ⟨by (with_reducible repeat (first | refine blk_drewN ?_ _ | refine blk_drew ?_ | refine blk_alloc ?_ _)); refine blk_far ?_ NB202_201.out _; exact bk BK202.out⟩, ⟨bl2 HB.out GE201.out GE202.out⟩⟩
         ·rw [if_neg c33] at H
          exact absurd H (by simp)
        ·rw [if_neg c30] at H
         exact absurd H (by simp)
       ·rw [if_neg c29] at H
        exact absurd H (by simp)
      ·rw [if_neg c27] at H
       have c27b0 : decide (a0_1 < t212) = false := decide_eq_false c27
       clear c27
       have H' := ak H
       clear H
       try go_wp2
       replace HO_202002 := ak (Kd.V_drew HO_202002.out)
       replace HO_202003 := ak (Kd.V_drew HO_202003.out)
       replace BK201 := ak (blk_drew BK201.out)
       replace BK202 := ak (blk_drew BK202.out)
       replace HB := ak (below_drew1 HB.out)
       obtain ⟨Ao47, co47, eo47⟩ := Kd.V_slice HO_202003.out
       (first | subst eo47 | (injection eo47 with f1_ f2_ f3_; have f4_ := f1_.symm; have f5_ := f3_.symm; clear f1_ f2_ f3_; subst f4_; subst f5_))
       refine start_ (n := 14) (S := fun w' => w'.cell? ⟨gb201, 0, none⟩ = some (.int .i64 a0_0) ∧ w'.cell? ⟨gb201, 1, none⟩ = some (.int .i64 a0_1) ∧ w'.cell? ⟨gb201, 2, none⟩ = some (u202002) ∧ w'.cell? ⟨gb201, 3, none⟩ = some (.slice Ao47 x202003_1.length co47)) (ds := []) #[false, false, false, false, false, false, false, false, false, false, false, false, false, false] (by kernel_rfl) rfl rfl ⟨(blk_cell BK201.out 0).trans rfl, (blk_cell BK201.out 1).trans rfl, (blk_cell BK201.out 2).trans rfl, (blk_cell BK201.out 3).trans rfl⟩ (fun hHeld => ?_); refine with_tabW spec_l12Fit.tab2 spec_l12Fit.bits2 (fun HT_ HW_ => ?_)
       generalize wr.drew = w46 at HO_202002 HO_202003 BK201 BK202 HB hHeld ⊢
       refine pu 0 (some 10) HT_ ?_
       refine pu 1 (some 11) HT_ ?_
       refine pu 2 (some 12) HT_ ?_
       refine pu 3 (some 13) HT_ ?_
       refine pu 4 (some 14) HT_ ?_
       refine pu 5 (some 15) HT_ ?_
       refine pu 6 (some 16) HT_ ?_
       refine pu 9 (some 19) HT_ ?_
       refine tk 7 (some 17) HT_ HW_ hHeld ?_
       refine tk 10 (some 20) HT_ HW_ hHeld ?_
       refine on 8 (some 18) HT_ (fun K hK => ?_)
       refine gO Try.func85 #[.slice Ao47 x202003_1.length co47] ?_
       with_reducible refine (spec_l12Weight.calls k1 _ _ x202003_1 t212 _ ?side1 ?side2 A26.out).mono ?_
       (case side1 => exact kc (Kd.V_reads' HO_202003.out).2.2)
       (case side2 => exact (Kd.V_reads' HO_202003.out).2.1)
       rintro e w48 ⟨rfl, hb⟩
       refine ⟨_, rfl, ?_⟩
       replace HO_202002 := ak (Kd.V_below (by (with_reducible repeat (first | apply Kd.V_alloc | apply Kd.V_drewN | apply Kd.V_drew)); exact HO_202002.out) hb)
       replace HO_202003 := ak (Kd.V_below (by (with_reducible repeat (first | apply Kd.V_alloc | apply Kd.V_drewN | apply Kd.V_drew)); exact HO_202003.out) hb)
       replace BK201 := ak (blk_below (bk BK201.out) hb)
       replace BK202 := ak (blk_below (bk BK202.out) hb)
       replace HB := ak (below_step (bl2 HB.out GE201.out GE202.out) hb)
       clear hb
       (try clear hb2)
       (try clear hk)
       (try clear hi)
       refine hK.out _ _ ⟨(blk_cell BK201.out 0).trans rfl, (blk_cell BK201.out 1).trans rfl, (blk_cell BK201.out 2).trans rfl, (blk_cell BK201.out 3).trans rfl⟩ (fun hHeld => ?_)
       clear hK K
       refine norm_ (a' := ?_) ?_ ?_
       rotate_left
       ·show Act.put _ (some 18) _ = _
        simp only [Act.put, List.setIfInBounds_toArray, List.set_cons_zero, List.set_cons_succ, i64_w, i32_w]
        rfl
       refine pu 11 (some 21) HT_ ?_
       refine pu 12 (some 22) HT_ ?_
       refine pu 13 (some 23) HT_ ?_
       refine done_ (done_of HT_.out (by kernel_rfl)) ?_
       try go_wp2
       go_meet
       case rel => exact ⟨_, (x202002_1), (x202003_1), (u202002), (.slice Ao47 x202003_1.length co47), H', ⟨by have := HK1.out; first | omega | exact Nat.le_refl _⟩, ⟨by (with_reducible repeat (first | apply Kd.V_alloc | apply Kd.V_drewN | apply Kd.V_drew)); exact HO_202002.out⟩, ⟨by (with_reducible repeat (first | apply Kd.V_alloc | apply Kd.V_drewN | apply Kd.V_drew)); exact HO_202003.out⟩, ⟨bk BK201.out⟩, ⟨bk BK202.out⟩, ⟨bl2 HB.out GE201.out GE202.out⟩⟩
    ·rw [if_neg c7] at H
     have c7b0 : decide (0 < x4_1) = false := decide_eq_false c7
     clear c7
     (first | rw [c7b0] | (simp only [i64_w, i32_w]; rw [c7b0]) | skip)
     have H' := ak H
     clear H
     try go_wp2
     replace HO_202002 := ak (Kd.V_drew HO_202002.out)
     replace HO_202003 := ak (Kd.V_drew HO_202003.out)
     replace BK201 := ak (blk_drew BK201.out)
     replace BK202 := ak (blk_drew BK202.out)
     replace HB := ak (below_drew1 HB.out)
     refine start_ (n := 14) (S := fun w' => True) (ds := []) #[false, false, false, false, false, false, false, false, false, false, false, false, false, false] (by kernel_rfl) rfl rfl trivial (fun hHeld => ?_); refine with_tabW spec_l12Fit.tab2 spec_l12Fit.bits2 (fun HT_ HW_ => ?_)
     generalize wr.drew = w49 at HO_202002 HO_202003 BK201 BK202 HB hHeld ⊢
     refine pu 0 (some 10) HT_ ?_
     refine pu 1 (some 11) HT_ ?_
     refine pu 2 (some 12) HT_ ?_
     refine pn 3 (some 13) HT_ ?_
     refine pn 4 (some 14) HT_ ?_
     refine pn 5 (some 15) HT_ ?_
     refine pn 6 (some 16) HT_ ?_
     refine pn 7 (some 17) HT_ ?_
     refine pn 8 (some 18) HT_ ?_
     refine pn 9 (some 19) HT_ ?_
     refine pn 10 (some 20) HT_ ?_
     refine pn 11 (some 21) HT_ ?_
     refine pn 12 (some 22) HT_ ?_
     refine pu 13 (some 23) HT_ ?_
     refine done_ (done_of HT_.out (by kernel_rfl)) ?_
     try go_wp2
     go_meet
     case rel => exact ⟨_, (x202002_1), (x202003_1), (u202002), (u202003), H', ⟨by have := HK1.out; first | omega | exact Nat.le_refl _⟩, ⟨by (with_reducible repeat (first | apply Kd.V_alloc | apply Kd.V_drewN | apply Kd.V_drew)); exact HO_202002.out⟩, ⟨by (with_reducible repeat (first | apply Kd.V_alloc | apply Kd.V_drewN | apply Kd.V_drew)); exact HO_202003.out⟩, ⟨bk BK201.out⟩, ⟨bk BK202.out⟩, ⟨bl2 HB.out GE201.out GE202.out⟩⟩
 case rest =>
  clear HC2
  try clear c2
  try clear p2
  try clear q2
  try clear hx2
  try clear c3
  try clear c4
  try clear q4
  try clear c7
  try clear c7b0
  try clear c8
  try clear p21
  try clear q21
  try clear hx21
  try clear c27
  try clear c27b0
  try clear c29
  try clear c30
  try clear c33
  try clear c43
  try clear q45
  try clear hcz44_0
  try clear hcz44_1
  try clear hcz44_2
  try clear hcz44_3
  try clear hfz44_0
  try clear hfz44_1
  try clear hfz44_2
  try clear hfz44_3
  try clear hx213_0
  try clear hx213_1
  try clear p213
  try clear q213
  try clear q45
  obtain ⟨kq, x202002_1, x202003_1, u202002, u202003, HA, HJ1, HO_202002, HO_202003, BK201, BK202, HB⟩ := hcut
  cases kq with
  | zero => exact absurd HA.out (by simp [spec_l12Fit.j1])
  | succ kj1 =>
   have H := HA.out
   clear HA
   simp only [spec_l12Fit.j1] at H
   have H' := ak H
   clear H
   have hnb50 := NB201_202.out
   have hnc50 := NB202_201.out
   obtain ⟨hcz51_0, hcz51_1, hcz51_2, hcz51_3, hfz51_0, hfz51_1, hfz51_2, hfz51_3⟩ := b4 BK201.out
   obtain ⟨Ao52, co52, eo52⟩ := Kd.V_slice HO_202002.out
   subst eo52
   go_wp2
   go_loopg [5, 6] kj1 (fun kq v5 v6 w' => ∃ (x5_2 : List (S45)) (x6_2 : Int) (x202002_2 : List (S45)) (u202002 : Value), v6 = .int .i64 x6_2 ∧ Aside0 (spec_l12Fit.l1 kq x5_2 x6_2 a0_0 a0_1 x202002_2 x202003_1 = some (r1, r2, r3, r4, r5)) ∧ Aside0 (kq ≤ kj1) ∧ Aside0 (Kd.R k45 45 w' w.heap.size (fun k_ => (w.heap.size ≤ k_)) v5 x5_2) ∧ Aside0 (Kd.V k45 45 w' w.heap.size (fun k_ => ((P0_2_ k_ ∨ P0_3_ k_) ∨ w.heap.size ≤ k_) ∧ some k_ ≠ (v5 : Value).ownBlock ∧ k_ ≠ gb201 ∧ k_ ≠ gb202) u202002 x202002_2) ∧ Aside0 (Kd.V k45 45 w' w.heap.size (fun k_ => ((P0_2_ k_ ∨ P0_3_ k_) ∨ w.heap.size ≤ k_) ∧ some k_ ≠ (v5 : Value).ownBlock ∧ k_ ≠ gb201 ∧ k_ ≠ gb202) u202003 x202003_1) ∧ Aside0 (w'.heap[gb201]? = some (.cells #[.int .i64 a0_0, .int .i64 a0_1, u202002, u202003] 28 (0, 0))) ∧ Aside0 (w'.heap[gb202]? = some (.cells #[.int .i64 0, .int .i64 0, (.slice none 0 0), (.slice none 0 0)] 28 (0, 0))) ∧ Aside0 (Below w.heap.size w w'))
   case atStart => exact ⟨(([] : List (S45))), ((x202002_1.length : Int)), (x202002_1), (.slice Ao52 x202002_1.length co52), (by first | rfl | (simp; done) | (simp [*]; done)), H', ⟨Nat.le_refl _⟩, ⟨by first | exact Kd.R_nil _ _ _ _ _ | exact Kd.N_nil _ _ _ _ _ | exact Kd.V_nil _ _ _ _ _ | exact Kd.Q_nil _ _ _ _ _ | exact Kd.S_nil _ _ _ _ _⟩, ⟨by (with_reducible repeat (first | apply Kd.V_alloc | apply Kd.V_drewN | apply Kd.V_drew)); exact Kd.V_mono HO_202002.out (fun _ hk => ⟨hk.1, ⟨(by simp [Value.ownBlock]), ⟨hk.2.1, hk.2.2⟩⟩⟩)⟩, ⟨by (with_reducible repeat (first | apply Kd.V_alloc | apply Kd.V_drewN | apply Kd.V_drew)); exact Kd.V_mono HO_202003.out (fun _ hk => ⟨hk.1, ⟨(by simp [Value.ownBlock]), ⟨hk.2.1, hk.2.2⟩⟩⟩)⟩, ⟨bk BK201.out⟩, ⟨bk BK202.out⟩, ⟨bl2 HB.out GE201.out GE202.out⟩⟩
   case round =>
    clear H'
    try clear c2
    try clear p2
    try clear q2
    try clear hx2
    try clear c3
    try clear c4
    try clear q4
    try clear c5
    try clear c7
    try clear c7b0
    try clear c8
    try clear p21
    try clear q21
    try clear hx21
    try clear c27
    try clear c27b0
    try clear c29
    try clear c30
    try clear c33
    try clear c43
    try clear q45
    try clear c50
    try clear hcz44_0
    try clear hcz44_1
    try clear hcz44_2
    try clear hcz44_3
    try clear hcz51_0
    try clear hcz51_1
    try clear hcz51_2
    try clear hcz51_3
    try clear hfz44_0
    try clear hfz44_1
    try clear hfz44_2
    try clear hfz44_3
    try clear hfz51_0
    try clear hfz51_1
    try clear hfz51_2
    try clear hfz51_3
    try clear hx213_0
    try clear hx213_1
    try clear p2
    try clear p21
    try clear p213
    try clear q2
    try clear q21
    try clear q213
    try clear q4
    try clear q45
    obtain ⟨x5_2, x6_2, x202002_2, u202002, rfl, HA, HK2, HO_5, HO_202002, HO_202003, BK201, BK202, HB⟩ := hrel
    cases gk with
    | zero => exact absurd HA.out (by simp [spec_l12Fit.l1])
    | succ k2 =>
     have H := HA.out
     clear HA
     simp only [spec_l12Fit.l1] at H
     by_cases c53 : x6_2 > 0
     ·rw [if_pos c53] at H
      have c53b0 : decide (0 < x6_2) = true := decide_eq_true c53
      clear c53
      by_cases c54 : x6_2 > 60
      ·rw [if_pos c54] at H
       have c54b0 : decide (60 < x6_2) = true := decide_eq_true c54
       clear c54
       obtain ⟨ji55, hji55⟩ : ∃ j_ : Int, (wrap64 (x6_2 - 1)) = j_ := ⟨_, rfl⟩
       replace H : (if 0 ≤ (ji55) then (if (ji55) < (x202002_2.length : Int) then (if x5_2.length < 4398046511104 then (if (ji55) ≤ (x202002_2.length : Int) then (spec_l12Fit.l1 k2 (x5_2 ++ [(⟨(rd_T45 x202002_2 (ji55)).f0, (rd_T45 x202002_2 (ji55)).f1⟩ : S45)]) ji55 a0_0 a0_1 (x202002_2.take ((ji55) : Int).toNat) x202003_1) else (none)) else (none)) else (none)) else (none)) = some (r1, r2, r3, r4, r5) := by first | (rw [hji55] at H; exact H) | (simp only [hji55] at H ⊢; exact H)
       have hji55w : (IntKind.i64.wrap (x6_2 - 1)) = ji55 := (i64_w _).trans hji55
       by_cases c56 : 0 ≤ (ji55)
       ·rw [if_pos c56] at H
        have c56b0 : decide (0 ≤ (ji55)) = true := decide_eq_true c56
        clear c56
        by_cases c57 : (ji55) < (x202002_2.length : Int)
        ·rw [if_pos c57] at H
         have c57b0 : decide ((ji55) < (x202002_2.length : Int)) = true := decide_eq_true c57
         clear c57
         by_cases c58 : x5_2.length < 4398046511104
         ·rw [if_pos c58] at H
          have LMc58 := ak c58
          clear c58
          obtain ⟨y223, hy223⟩ : ∃ y_ : List (S45), y_ = (x5_2 ++ [(⟨(rd_T45 x202002_2 (ji55)).f0, (rd_T45 x202002_2 (ji55)).f1⟩ : S45)]) := ⟨_, rfl⟩
          replace H : (if (ji55) ≤ (x202002_2.length : Int) then (spec_l12Fit.l1 k2 y223 ji55 a0_0 a0_1 (x202002_2.take ((ji55) : Int).toNat) x202003_1) else (none)) = some (r1, r2, r3, r4, r5) := by first | (rw [hy223]; with_reducible exact H) | (have H2_ := (Option.bind_some _ _).symm.trans H; rw [hy223]; with_reducible exact H2_) | (have H2_ := (Option.bind_some _ _).symm.trans H; with_reducible exact H2_) | with_reducible exact H | (rw [hy223]; exact H) | exact H
          have Ny223 := ak hy223
          clear hy223
          have c59b0 := eq_true (od : 0 ≤ (ji55))
          by_cases c60 : (ji55) ≤ (x202002_2.length : Int)
          ·rw [if_pos c60] at H
           have c60b0 := eq_true c60
           have c60b1 : decide ((ji55) ≤ (x202002_2.length : Int)) = true := decide_eq_true c60
           clear c60
           obtain ⟨y226, hy226⟩ : ∃ y_ : List (S45), y_ = (x202002_2.take ((ji55) : Int).toNat) := ⟨_, rfl⟩
           replace H : (spec_l12Fit.l1 k2 y223 ji55 a0_0 a0_1 y226 x202003_1) = some (r1, r2, r3, r4, r5) := by first | (rw [hy226]; with_reducible exact H) | (have H2_ := (Option.bind_some _ _).symm.trans H; rw [hy226]; with_reducible exact H2_) | (have H2_ := (Option.bind_some _ _).symm.trans H; with_reducible exact H2_) | with_reducible exact H | (rw [hy226]; exact H) | exact H
           have Ny226 := ak hy226
           clear hy226
           have H' := ak H
           clear H
           try go_wp2
           replace HO_5 := ak (Kd.R_drew HO_5.out)
           replace HO_202002 := ak (Kd.V_drew HO_202002.out)
           replace HO_202003 := ak (Kd.V_drew HO_202003.out)
           replace BK201 := ak (blk_drew BK201.out)
           replace BK202 := ak (blk_drew BK202.out)
           replace HB := ak (below_drew1 HB.out)
           refine start_ (n := 14) (S := fun w' => True) (ds := []) #[false, false, false, false, false, false, false, false, false, false, false, false, false, false] (by kernel_rfl) rfl rfl trivial (fun hHeld => ?_); refine with_tabW spec_l12Fit.tab8 spec_l12Fit.bits8 (fun HT_ HW_ => ?_)
           generalize wr.drew = w61 at HO_5 HO_202002 HO_202003 BK201 BK202 HB hHeld ⊢
           refine pu 0 (some 45) HT_ ?_
           refine pu 1 (some 46) HT_ ?_
           refine pu 2 (some 47) HT_ ?_
           refine pu 3 (some 48) HT_ ?_
           refine pu 4 (some 49) HT_ ?_
           refine pu 5 (some 50) HT_ ?_
           refine pn 6 (some 51) HT_ ?_
           refine pn 7 (some 52) HT_ ?_
           refine pn 8 (some 53) HT_ ?_
           refine pn 9 (some 54) HT_ ?_
           refine pn 10 (some 55) HT_ ?_
           refine pn 11 (some 56) HT_ ?_
           refine pu 12 (some 57) HT_ ?_
           refine pu 13 (some 58) HT_ ?_
           refine done_ (done_of HT_.out (by kernel_rfl)) ?_
           have hnb62 := NB201_202.out
           have hnc62 := NB202_201.out
           obtain ⟨hcz63_0, hcz63_1, hcz63_2, hcz63_3, hfz63_0, hfz63_1, hfz63_2, hfz63_3⟩ := b4 BK201.out
           obtain ⟨Ao64, co64, eo64⟩ := Kd.V_slice HO_202002.out
           subst eo64
           have p222 : 0 ≤ ((ji55) : Int) := od
           have q222 : (ji55) < (x202002_2.length : Int) := od
           obtain ⟨ad222, e222, hx222_0, hx222_1⟩ := at_T45 (Kd.V_reads' HO_202002.out).2.2 (ji55) p222 q222
           cases e222
           replace p222 := eq_true p222
           replace q222 := eq_true q222
           try go_wp2_with (first | ((with_reducible refine gate_builtin (b := .append) (xs := #[.tmp 61, .tmp 68]) rfl ?_); at_builtin; refine Kd.R_append k45 (w0 := w) w.heap.size rfl (.tmp 61) (.tmp 68) 26 45 (.agg #[(.string ⟨#[]⟩), (.string ⟨#[]⟩)]) 32 rfl Try.underlying26 info45 rfl (by decide) (by omega) u5 x5_2 (⟨(rd_T45 x202002_2 (ji55)).f0, (rd_T45 x202002_2 (ji55)).f1⟩ : S45) [.string ((rd_T45 x202002_2 (ji55)).f0), .string ((rd_T45 x202002_2 (ji55)).f1)] (fun k_ => (w.heap.size ≤ k_)) (fun _ => False) rfl rfl ?aP (fun _ hk => hk.elim) ?aF ?aO ?aB ?aS ?aL ?_; (case aP => exact k45_mkM _ _ _ (⟨(rd_T45 x202002_2 (ji55)).f0, (rd_T45 x202002_2 (ji55)).f1⟩ : S45)); (case aB => exact (bl2 HB.out GE201.out GE202.out)); (case aF => exact (fun k_ hk => (Nat.le_trans (below_size (bl2 HB.out GE201.out GE202.out)) hk))); (case aO => exact (kr HO_5.out)); (case aS => exact (below_size (bl2 HB.out GE201.out GE202.out))); (case aL => have := LMc58.out; omega); intro v224 w65 ho hb hg hat; rw [← Ny223.out] at ho; replace HO_202002 := ak (Kd.V_afterv (ok := (fun k_ => ((P0_2_ k_ ∨ P0_3_ k_) ∨ w.heap.size ≤ k_) ∧ k_ ≠ gb201 ∧ k_ ≠ gb202)) (by (with_reducible repeat (first | apply Kd.V_alloc | apply Kd.V_drewN | apply Kd.V_drew)); exact Kd.V_mono HO_202002.out (fun _ hk => ⟨⟨hk.1, ⟨hk.2.2.1, hk.2.2.2⟩⟩, hk.2.1⟩)) hg hat); replace HO_202003 := ak (Kd.V_afterv (ok := (fun k_ => ((P0_2_ k_ ∨ P0_3_ k_) ∨ w.heap.size ≤ k_) ∧ k_ ≠ gb201 ∧ k_ ≠ gb202)) (by (with_reducible repeat (first | apply Kd.V_alloc | apply Kd.V_drewN | apply Kd.V_drew)); exact Kd.V_mono HO_202003.out (fun _ hk => ⟨⟨hk.1, ⟨hk.2.2.1, hk.2.2.2⟩⟩, hk.2.1⟩)) hg hat); replace BK201 := ak (blk_grown (bk BK201.out) hg (Kd.R_ne HO_5.out BK201.out (by decide))); replace BK202 := ak (blk_grown (bk BK202.out) hg (Kd.R_ne HO_5.out BK202.out (by decide))); replace HB := ak hb; have HO225 := ak ho; clear HO_5; clear ho hb hg hat; obtain ⟨hcz66_0, hcz66_1, hcz66_2, hcz66_3, hfz66_0, hfz66_1, hfz66_2, hfz66_3⟩ := b4 BK201.out; have q67 : ((ji55) : Int) ≤ ((x202002_2.length : Int) : Int) := od; obtain ⟨i067, hi067, _, hsz67, _⟩ := info_parts info45; have hroom67 : x202002_2.length ≤ co64 := (Kd.V_reads' HO_202002.out).2.1; have hC67 : Kd.F k45 _ _ (some ad222) x202002_2.length x202002_2 := (Kd.V_at (base := w.heap.size) HO_202002.out).2.2; have hcut67 := cut_to (P := Try.prog) 26 45 .i64 Try.underlying26 hi067 (some ad222) x202002_2.length co64 (ji55) (od) q67 hroom67; have hr67 := Kd.F_take (m := ((ji55) : Int).toNat) hC67 (by omega); have hy67 : y226.length = ((ji55) : Int).toNat := (by rw [Ny226.out, List.length_take]; omega); rw [← Ny226.out] at hr67; rw [← hy67] at hcut67; have HO230 := ak (show Kd.V k45 45 _ w.heap.size _ (.slice (some ad222) y226.length co64) y226 from Kd.V_mk (by omega) hr67); have HC230 := ak (show y226.length ≤ co64 from by omega); clear hr67 hC67 hroom67 hi067 hsz67; have KY67 := ak hy67; clear hy67; replace q67 := eq_true q67))
           go_roundg k2
           case measure => have := HJ1.out; have := HK2.out; omega
           case rel => exact ⟨(y223), (ji55), (y226), (.slice (some ad222) y226.length co64), (by first | rfl | (simp; done) | (simp only [← hji55] <;> (first | rfl | simp)) | (simp [*]; done)), H', ⟨by have := HJ1.out; have := HK2.out; omega⟩, ⟨by (with_reducible repeat (first | apply Kd.R_alloc | apply Kd.R_drewN | apply Kd.R_drew)); exact Kd.R_mono (Kd.R_far (p := ⟨gb201, 2, none⟩) (Kd.R_types HO225.out BK201.out (by decide)) (fun _ hk => hk.2) (.slice (some ad222) y226.length co64)) (fun _ hk => hk.1)⟩, ⟨by (with_reducible repeat (first | apply Kd.V_alloc | apply Kd.V_drewN | apply Kd.V_drew)); exact Kd.V_mono (Kd.V_far (p := ⟨gb201, 2, none⟩) (Kd.V_mono HO230.out (fun k_ hk => (⟨hk, hk.1.2.1⟩ : _ ∧ k_ ≠ gb201))) (fun _ hk => hk.2) (.slice (some ad222) y226.length co64)) (fun _ hk => ⟨hk.1.1.1, ⟨hk.1.2, ⟨hk.1.1.2.1, hk.1.1.2.2⟩⟩⟩)⟩, ⟨by (with_reducible repeat (first | apply Kd.V_alloc | apply Kd.V_drewN | apply Kd.V_drew)); exact Kd.V_mono (Kd.V_far (p := ⟨gb201, 2, none⟩) (Kd.V_mono HO_202003.out (fun k_ hk => (⟨hk, hk.1.2.1⟩ : _ ∧ k_ ≠ gb201))) (fun _ hk => hk.2) (.slice (some ad222) y226.length co64)) (fun _ hk => ⟨hk.1.1.1, ⟨hk.1.2, ⟨hk.1.1.2.1, hk.1.1.2.2⟩⟩⟩)⟩, ⟨by (with_reducible repeat (first | refine blk_drewN ?_ _ | refine blk_drew ?_ | refine blk_alloc ?_ _)); refine blk_put (cs := #[.int .i64 a0_0, .int .i64 a0_1, .slice (some ad222) x202002_2.length co64, u202003]) ?_ 2 _ rfl; exact bk BK201.out⟩, ⟨by (with_reducible repeat (first | refine blk_drewN ?_ _ | refine blk_drew ?_ | refine blk_alloc ?_ _)); refine blk_far ?_ NB202_201.out _; exact bk BK202.out⟩, ⟨bl2 HB.out GE201.out GE202.out⟩⟩
          ·rw [if_neg c60] at H
           exact absurd H (by simp)
         ·rw [if_neg c58] at H
          exact absurd H (by simp)
        ·rw [if_neg c57] at H
         exact absurd H (by simp)
       ·rw [if_neg c56] at H
        exact absurd H (by simp)
      ·rw [if_neg c54] at H
       have c54b0 : decide (60 < x6_2) = false := decide_eq_false c54
       clear c54
       replace H := Option.bind_eq_some_iff.mp H
       obtain ⟨t231, A680, H⟩ := H
       try dsimp only at H
       have A68 := ak A680
       clear A680
       by_cases c69 : t231 > a0_0
       ·rw [if_pos c69] at H
        have c69b0 : decide (a0_0 < t231) = true := decide_eq_true c69
        clear c69
        obtain ⟨ji70, hji70⟩ : ∃ j_ : Int, (wrap64 (x6_2 - 1)) = j_ := ⟨_, rfl⟩
        replace H : (if 0 ≤ (ji70) then (if (ji70) < (x202002_2.length : Int) then (if x5_2.length < 4398046511104 then (if (ji70) ≤ (x202002_2.length : Int) then (spec_l12Fit.l1 k2 (x5_2 ++ [(⟨(rd_T45 x202002_2 (ji70)).f0, (rd_T45 x202002_2 (ji70)).f1⟩ : S45)]) ji70 a0_0 a0_1 (x202002_2.take ((ji70) : Int).toNat) x202003_1) else (none)) else (none)) else (none)) else (none)) = some (r1, r2, r3, r4, r5) := by first | (rw [hji70] at H; exact H) | (simp only [hji70] at H ⊢; exact H)
        (try rw [hji70] at A68)
        have hji70w : (IntKind.i64.wrap (x6_2 - 1)) = ji70 := (i64_w _).trans hji70
        by_cases c71 : 0 ≤ (ji70)
        ·rw [if_pos c71] at H
         have c71b0 : decide (0 ≤ (ji70)) = true := decide_eq_true c71
         clear c71
         by_cases c72 : (ji70) < (x202002_2.length : Int)
         ·rw [if_pos c72] at H
          have c72b0 : decide ((ji70) < (x202002_2.length : Int)) = true := decide_eq_true c72
          clear c72
          by_cases c73 : x5_2.length < 4398046511104
          ·rw [if_pos c73] at H
           have LMc73 := ak c73
           clear c73
           obtain ⟨y233, hy233⟩ : ∃ y_ : List (S45), y_ = (x5_2 ++ [(⟨(rd_T45 x202002_2 (ji70)).f0, (rd_T45 x202002_2 (ji70)).f1⟩ : S45)]) := ⟨_, rfl⟩
           replace H : (if (ji70) ≤ (x202002_2.length : Int) then (spec_l12Fit.l1 k2 y233 ji70 a0_0 a0_1 (x202002_2.take ((ji70) : Int).toNat) x202003_1) else (none)) = some (r1, r2, r3, r4, r5) := by first | (rw [hy233]; with_reducible exact H) | (have H2_ := (Option.bind_some _ _).symm.trans H; rw [hy233]; with_reducible exact H2_) | (have H2_ := (Option.bind_some _ _).symm.trans H; with_reducible exact H2_) | with_reducible exact H | (rw [hy233]; exact H) | exact H
           have Ny233 := ak hy233
           clear hy233
           have c74b0 := eq_true (od : 0 ≤ (ji70))
           by_cases c75 : (ji70) ≤ (x202002_2.length : Int)
           ·rw [if_pos c75] at H
            have c75b0 := eq_true c75
            have c75b1 : decide ((ji70) ≤ (x202002_2.length : Int)) = true := decide_eq_true c75
            clear c75
            obtain ⟨y236, hy236⟩ : ∃ y_ : List (S45), y_ = (x202002_2.take ((ji70) : Int).toNat) := ⟨_, rfl⟩
            replace H : (spec_l12Fit.l1 k2 y233 ji70 a0_0 a0_1 y236 x202003_1) = some (r1, r2, r3, r4, r5) := by first | (rw [hy236]; with_reducible exact H) | (have H2_ := (Option.bind_some _ _).symm.trans H; rw [hy236]; with_reducible exact H2_) | (have H2_ := (Option.bind_some _ _).symm.trans H; with_reducible exact H2_) | with_reducible exact H | (rw [hy236]; exact H) | exact H
            have Ny236 := ak hy236
            clear hy236
            have H' := ak H
            clear H
            try go_wp2
            replace HO_5 := ak (Kd.R_drew HO_5.out)
            replace HO_202002 := ak (Kd.V_drew HO_202002.out)
            replace HO_202003 := ak (Kd.V_drew HO_202003.out)
            replace BK201 := ak (blk_drew BK201.out)
            replace BK202 := ak (blk_drew BK202.out)
            replace HB := ak (below_drew1 HB.out)
            obtain ⟨Ao77, co77, eo77⟩ := Kd.V_slice HO_202002.out
            (first | subst eo77 | (injection eo77 with f1_ f2_ f3_; have f4_ := f1_.symm; have f5_ := f3_.symm; clear f1_ f2_ f3_; subst f4_; subst f5_))
            refine start_ (n := 14) (S := fun w' => w'.cell? ⟨gb201, 0, none⟩ = some (.int .i64 a0_0) ∧ w'.cell? ⟨gb201, 1, none⟩ = some (.int .i64 a0_1) ∧ w'.cell? ⟨gb201, 2, none⟩ = some (.slice Ao77 x202002_2.length co77) ∧ w'.cell? ⟨gb201, 3, none⟩ = some (u202003)) (ds := []) #[false, false, false, false, false, false, false, false, false, false, false, false, false, false] (by kernel_rfl) rfl rfl ⟨(blk_cell BK201.out 0).trans rfl, (blk_cell BK201.out 1).trans rfl, (blk_cell BK201.out 2).trans rfl, (blk_cell BK201.out 3).trans rfl⟩ (fun hHeld => ?_); refine with_tabW spec_l12Fit.tab8 spec_l12Fit.bits8 (fun HT_ HW_ => ?_)
            generalize wr.drew = w76 at HO_5 HO_202002 HO_202003 BK201 BK202 HB hHeld ⊢
            refine pu 0 (some 45) HT_ ?_
            refine pu 1 (some 46) HT_ ?_
            refine pu 2 (some 47) HT_ ?_
            refine pu 3 (some 48) HT_ ?_
            refine pu 4 (some 49) HT_ ?_
            refine pu 5 (some 50) HT_ ?_
            refine pu 6 (some 51) HT_ ?_
            refine pu 9 (some 54) HT_ ?_
            refine tk 7 (some 52) HT_ HW_ hHeld ?_
            refine tk 10 (some 55) HT_ HW_ hHeld ?_
            refine on 8 (some 53) HT_ (fun K hK => ?_)
            refine gO Try.func85 #[.slice Ao77 x202002_2.length co77] ?_
            with_reducible refine (spec_l12Weight.calls k2 _ _ x202002_2 t231 _ ?side1 ?side2 A68.out).mono ?_
            (case side1 => exact kc (Kd.V_reads' HO_202002.out).2.2)
            (case side2 => exact (Kd.V_reads' HO_202002.out).2.1)
            rintro e w78 ⟨rfl, hb⟩
            refine ⟨_, rfl, ?_⟩
            replace HO_5 := ak (Kd.R_below (kr HO_5.out) hb)
            replace HO_202002 := ak (Kd.V_below (by (with_reducible repeat (first | apply Kd.V_alloc | apply Kd.V_drewN | apply Kd.V_drew)); exact HO_202002.out) hb)
            replace HO_202003 := ak (Kd.V_below (by (with_reducible repeat (first | apply Kd.V_alloc | apply Kd.V_drewN | apply Kd.V_drew)); exact HO_202003.out) hb)
            replace BK201 := ak (blk_below (bk BK201.out) hb)
            replace BK202 := ak (blk_below (bk BK202.out) hb)
            replace HB := ak (below_step (bl2 HB.out GE201.out GE202.out) hb)
            clear hb
            (try clear hb2)
            (try clear hk)
            (try clear hi)
            refine hK.out _ _ ⟨(blk_cell BK201.out 0).trans rfl, (blk_cell BK201.out 1).trans rfl, (blk_cell BK201.out 2).trans rfl, (blk_cell BK201.out 3).trans rfl⟩ (fun hHeld => ?_)
            clear hK K
            refine norm_ (a' := ?_) ?_ ?_
            rotate_left
            ·show Act.put _ (some 53) _ = _
             simp only [Act.put, List.setIfInBounds_toArray, List.set_cons_zero, List.set_cons_succ, i64_w, i32_w]
             rfl
            refine pu 11 (some 56) HT_ ?_
            refine pu 12 (some 57) HT_ ?_
            refine pu 13 (some 58) HT_ ?_
            refine done_ (done_of HT_.out (by kernel_rfl)) ?_
            have hnb79 := NB201_202.out
            have hnc79 := NB202_201.out
            obtain ⟨hcz80_0, hcz80_1, hcz80_2, hcz80_3, hfz80_0, hfz80_1, hfz80_2, hfz80_3⟩ := b4 BK201.out
            have p232 : 0 ≤ ((ji70) : Int) := od
            have q232 : (ji70) < (x202002_2.length : Int) := od
            obtain ⟨ad232, e232, hx232_0, hx232_1⟩ := at_T45 (Kd.V_reads' HO_202002.out).2.2 (ji70) p232 q232
            cases e232
            replace p232 := eq_true p232
            replace q232 := eq_true q232
            try go_wp2_with (first | ((with_reducible refine gate_builtin (b := .append) (xs := #[.tmp 61, .tmp 68]) rfl ?_); at_builtin; refine Kd.R_append k45 (w0 := w) w.heap.size rfl (.tmp 61) (.tmp 68) 26 45 (.agg #[(.string ⟨#[]⟩), (.string ⟨#[]⟩)]) 32 rfl Try.underlying26 info45 rfl (by decide) (by omega) u5 x5_2 (⟨(rd_T45 x202002_2 (ji70)).f0, (rd_T45 x202002_2 (ji70)).f1⟩ : S45) [.string ((rd_T45 x202002_2 (ji70)).f0), .string ((rd_T45 x202002_2 (ji70)).f1)] (fun k_ => (w.heap.size ≤ k_)) (fun _ => False) rfl rfl ?aP (fun _ hk => hk.elim) ?aF ?aO ?aB ?aS ?aL ?_; (case aP => exact k45_mkM _ _ _ (⟨(rd_T45 x202002_2 (ji70)).f0, (rd_T45 x202002_2 (ji70)).f1⟩ : S45)); (case aB => exact (bl2 HB.out GE201.out GE202.out)); (case aF => exact (fun k_ hk => (Nat.le_trans (below_size (bl2 HB.out GE201.out GE202.out)) hk))); (case aO => exact (kr HO_5.out)); (case aS => exact (below_size (bl2 HB.out GE201.out GE202.out))); (case aL => have := LMc73.out; omega); intro v234 w81 ho hb hg hat; rw [← Ny233.out] at ho; replace HO_202002 := ak (Kd.V_afterv (ok := (fun k_ => ((P0_2_ k_ ∨ P0_3_ k_) ∨ w.heap.size ≤ k_) ∧ k_ ≠ gb201 ∧ k_ ≠ gb202)) (by (with_reducible repeat (first | apply Kd.V_alloc | apply Kd.V_drewN | apply Kd.V_drew)); exact Kd.V_mono HO_202002.out (fun _ hk => ⟨⟨hk.1, ⟨hk.2.2.1, hk.2.2.2⟩⟩, hk.2.1⟩)) hg hat); replace HO_202003 := ak (Kd.V_afterv (ok := (fun k_ => ((P0_2_ k_ ∨ P0_3_ k_) ∨ w.heap.size ≤ k_) ∧ k_ ≠ gb201 ∧ k_ ≠ gb202)) (by (with_reducible repeat (first | apply Kd.V_alloc | apply Kd.V_drewN | apply Kd.V_drew)); exact Kd.V_mono HO_202003.out (fun _ hk => ⟨⟨hk.1, ⟨hk.2.2.1, hk.2.2.2⟩⟩, hk.2.1⟩)) hg hat); replace BK201 := ak (blk_grown (bk BK201.out) hg (Kd.R_ne HO_5.out BK201.out (by decide))); replace BK202 := ak (blk_grown (bk BK202.out) hg (Kd.R_ne HO_5.out BK202.out (by decide))); replace HB := ak hb; have HO235 := ak ho; clear HO_5; clear ho hb hg hat; obtain ⟨hcz82_0, hcz82_1, hcz82_2, hcz82_3, hfz82_0, hfz82_1, hfz82_2, hfz82_3⟩ := b4 BK201.out; have q83 : ((ji70) : Int) ≤ ((x202002_2.length : Int) : Int) := od; obtain ⟨i083, hi083, _, hsz83, _⟩ := info_parts info45; have hroom83 : x202002_2.length ≤ co77 := (Kd.V_reads' HO_202002.out).2.1; have hC83 : Kd.F k45 _ _ (some ad232) x202002_2.length x202002_2 := (Kd.V_at (base := w.heap.size) HO_202002.out).2.2; have hcut83 := cut_to (P := Try.prog) 26 45 .i64 Try.underlying26 hi083 (some ad232) x202002_2.length co77 (ji70) (od) q83 hroom83; have hr83 := Kd.F_take (m := ((ji70) : Int).toNat) hC83 (by omega); have hy83 : y236.length = ((ji70) : Int).toNat := (by rw [Ny236.out, List.length_take]; omega); rw [← Ny236.out] at hr83; rw [← hy83] at hcut83; have HO240 := ak (show Kd.V k45 45 _ w.heap.size _ (.slice (some ad232) y236.length co77) y236 from Kd.V_mk (by omega) hr83); have HC240 := ak (show y236.length ≤ co77 from by omega); clear hr83 hC83 hroom83 hi083 hsz83; have KY83 := ak hy83; clear hy83; replace q83 := eq_true q83))
            go_roundg k2
            case measure => have := HJ1.out; have := HK2.out; omega
            case rel => exact ⟨(y233), (ji70), (y236), (.slice (some ad232) y236.length co77), (by first | rfl | (simp; done) | (simp only [← hji70] <;> (first | rfl | simp)) | (simp [*]; done)), H', ⟨by have := HJ1.out; have := HK2.out; omega⟩, ⟨by (with_reducible repeat (first | apply Kd.R_alloc | apply Kd.R_drewN | apply Kd.R_drew)); exact Kd.R_mono (Kd.R_far (p := ⟨gb201, 2, none⟩) (Kd.R_types HO235.out BK201.out (by decide)) (fun _ hk => hk.2) (.slice (some ad232) y236.length co77)) (fun _ hk => hk.1)⟩, ⟨by (with_reducible repeat (first | apply Kd.V_alloc | apply Kd.V_drewN | apply Kd.V_drew)); exact Kd.V_mono (Kd.V_far (p := ⟨gb201, 2, none⟩) (Kd.V_mono HO240.out (fun k_ hk => (⟨hk, hk.1.2.1⟩ : _ ∧ k_ ≠ gb201))) (fun _ hk => hk.2) (.slice (some ad232) y236.length co77)) (fun _ hk => ⟨hk.1.1.1, ⟨hk.1.2, ⟨hk.1.1.2.1, hk.1.1.2.2⟩⟩⟩)⟩, ⟨by (with_reducible repeat (first | apply Kd.V_alloc | apply Kd.V_drewN | apply Kd.V_drew)); exact Kd.V_mono (Kd.V_far (p := ⟨gb201, 2, none⟩) (Kd.V_mono HO_202003.out (fun k_ hk => (⟨hk, hk.1.2.1⟩ : _ ∧ k_ ≠ gb201))) (fun _ hk => hk.2) (.slice (some ad232) y236.length co77)) (fun _ hk => ⟨hk.1.1.1, ⟨hk.1.2, ⟨hk.1.1.2.1, hk.1.1.2.2⟩⟩⟩)⟩, ⟨by (with_reducible repeat (first | refine blk_drewN ?_ _ | refine blk_drew ?_ | refine blk_alloc ?_ _)); refine blk_put (cs := #[.int .i64 a0_0, .int .i64 a0_1, .slice (some ad232) x202002_2.length co77, u202003]) ?_ 2 _ rfl; exact bk BK201.out⟩, ⟨by (with_reducible repeat (first | refine blk_drewN ?_ _ | refine blk_drew ?_ | refine blk_alloc ?_ _)); refine blk_far ?_ NB202_201.out _; exact bk BK202.out⟩, ⟨bl2 HB.out GE201.out GE202.out⟩⟩
           ·rw [if_neg c75] at H
            exact absurd H (by simp)
          ·rw [if_neg c73] at H
           exact absurd H (by simp)
         ·rw [if_neg c72] at H
          exact absurd H (by simp)
        ·rw [if_neg c71] at H
         exact absurd H (by simp)
       ·rw [if_neg c69] at H
        have c69b0 : decide (a0_0 < t231) = false := decide_eq_false c69
        clear c69
        replace H := Option.bind_eq_some_iff.mp H
        obtain ⟨⟨t241, t242, t243, t246⟩, A840, H⟩ := H
        try dsimp only at H
        have A84 := ak A840
        clear A840
        simp only [Option.some.injEq, Prod.mk.injEq] at H
        obtain ⟨rfl, rfl, rfl, rfl, rfl⟩ := H
        try go_wp2
        replace HO_5 := ak (Kd.R_drew HO_5.out)
        replace HO_202002 := ak (Kd.V_drew HO_202002.out)
        replace HO_202003 := ak (Kd.V_drew HO_202003.out)
        replace BK201 := ak (blk_drew BK201.out)
        replace BK202 := ak (blk_drew BK202.out)
        replace HB := ak (below_drew1 HB.out)
        obtain ⟨Ao86, co86, eo86⟩ := Kd.V_slice HO_202002.out
        (first | subst eo86 | (injection eo86 with f1_ f2_ f3_; have f4_ := f1_.symm; have f5_ := f3_.symm; clear f1_ f2_ f3_; subst f4_; subst f5_))
        refine start_ (n := 14) (S := fun w' => w'.cell? ⟨gb201, 0, none⟩ = some (.int .i64 a0_0) ∧ w'.cell? ⟨gb201, 1, none⟩ = some (.int .i64 a0_1) ∧ w'.cell? ⟨gb201, 2, none⟩ = some (.slice Ao86 x202002_2.length co86) ∧ w'.cell? ⟨gb201, 3, none⟩ = some (u202003)) (ds := []) #[false, false, false, false, false, false, false, false, false, false, false, false, false, false] (by kernel_rfl) rfl rfl ⟨(blk_cell BK201.out 0).trans rfl, (blk_cell BK201.out 1).trans rfl, (blk_cell BK201.out 2).trans rfl, (blk_cell BK201.out 3).trans rfl⟩ (fun hHeld => ?_); refine with_tabW spec_l12Fit.tab8 spec_l12Fit.bits8 (fun HT_ HW_ => ?_)
        generalize wr.drew = w85 at HO_5 HO_202002 HO_202003 BK201 BK202 HB hHeld ⊢
        refine pu 0 (some 45) HT_ ?_
        refine pu 1 (some 46) HT_ ?_
        refine pu 2 (some 47) HT_ ?_
        refine pu 3 (some 48) HT_ ?_
        refine pu 4 (some 49) HT_ ?_
        refine pu 5 (some 50) HT_ ?_
        refine pu 6 (some 51) HT_ ?_
        refine pu 9 (some 54) HT_ ?_
        refine tk 7 (some 52) HT_ HW_ hHeld ?_
        refine tk 10 (some 55) HT_ HW_ hHeld ?_
        refine on 8 (some 53) HT_ (fun K hK => ?_)
        refine gO Try.func85 #[.slice Ao86 x202002_2.length co86] ?_
        with_reducible refine (spec_l12Weight.calls k2 _ _ x202002_2 t231 _ ?side1 ?side2 A68.out).mono ?_
        (case side1 => exact kc (Kd.V_reads' HO_202002.out).2.2)
        (case side2 => exact (Kd.V_reads' HO_202002.out).2.1)
        rintro e w87 ⟨rfl, hb⟩
        refine ⟨_, rfl, ?_⟩
        replace HO_5 := ak (Kd.R_below (kr HO_5.out) hb)
        replace HO_202002 := ak (Kd.V_below (by (with_reducible repeat (first | apply Kd.V_alloc | apply Kd.V_drewN | apply Kd.V_drew)); exact HO_202002.out) hb)
        replace HO_202003 := ak (Kd.V_below (by (with_reducible repeat (first | apply Kd.V_alloc | apply Kd.V_drewN | apply Kd.V_drew)); exact HO_202003.out) hb)
        replace BK201 := ak (blk_below (bk BK201.out) hb)
        replace BK202 := ak (blk_below (bk BK202.out) hb)
        replace HB := ak (below_step (bl2 HB.out GE201.out GE202.out) hb)
        clear hb
        (try clear hb2)
        (try clear hk)
        (try clear hi)
        refine hK.out _ _ ⟨(blk_cell BK201.out 0).trans rfl, (blk_cell BK201.out 1).trans rfl, (blk_cell BK201.out 2).trans rfl, (blk_cell BK201.out 3).trans rfl⟩ (fun hHeld => ?_)
        clear hK K
        refine norm_ (a' := ?_) ?_ ?_
        rotate_left
        ·show Act.put _ (some 53) _ = _
         simp only [Act.put, List.setIfInBounds_toArray, List.set_cons_zero, List.set_cons_succ, i64_w, i32_w]
         rfl
        refine pu 11 (some 56) HT_ ?_
        refine pu 12 (some 57) HT_ ?_
        refine pu 13 (some 58) HT_ ?_
        refine done_ (done_of HT_.out (by kernel_rfl)) ?_
        have hnb88 := NB201_202.out
        have hnc88 := NB202_201.out
        obtain ⟨hcz89_0, hcz89_1, hcz89_2, hcz89_3, hfz89_0, hfz89_1, hfz89_2, hfz89_3⟩ := b4 BK201.out
        obtain ⟨Ao90, co90, eo90⟩ := Kd.V_slice HO_202003.out
        subst eo90
        try go_wp2_with (first | (refine gL 42 Try.func42 (some 77) #[.agg #[.int .i64 a0_0, .int .i64 a0_1, .slice Ao86 x202002_2.length co86, .slice Ao90 x202003_1.length co90]] ?_; (with_reducible refine (spec_l12Own.calls a0_0 a0_1 _ _ x202002_2 _ _ x202003_1 t241 t242 t243 t246 _ ?side1 ?side2 ?side3 ?side4 A84.out).mono ?_); (case side1 => exact kc (Kd.V_reads' HO_202002.out).2.2); (case side2 => exact (Kd.V_reads' HO_202002.out).2.1); (case side3 => exact kc (Kd.V_reads' HO_202003.out).2.2); (case side4 => exact (Kd.V_reads' HO_202003.out).2.1); rintro e w91 ⟨v244, v247, rfl, ho0, ho1, hb⟩; refine ⟨_, rfl, ?_⟩; replace HO_202002 := ak (Kd.V_mono (Kd.V_told (Kd.V_told (Kd.V_old (by (with_reducible repeat (first | apply Kd.V_alloc | apply Kd.V_drewN | apply Kd.V_drew)); exact HO_202002.out) hb) (Kd.R_base ho0)) (Kd.R_base ho1)) (fun _ h_ => h_.1)); replace HO_202003 := ak (Kd.V_mono (Kd.V_told (Kd.V_told (Kd.V_old (by (with_reducible repeat (first | apply Kd.V_alloc | apply Kd.V_drewN | apply Kd.V_drew)); exact HO_202003.out) hb) (Kd.R_base ho0)) (Kd.R_base ho1)) (fun _ h_ => h_.1)); have HO245 := ak (Kd.R_lower (Kd.R_new' (Kd.R_newM (M := fun k_ => (w.heap.size ≤ k_)) ho0 (below_size (bl2 HB.out GE201.out GE202.out)) (fun k_ h_ => h_)) (Kd.R_lt (kr HO_5.out))) (below_size (bl2 HB.out GE201.out GE202.out))); have HO248 := ak (Kd.R_lower (Kd.R_new' (Kd.R_newM (M := fun k_ => (w.heap.size ≤ k_)) ho1 (below_size (bl2 HB.out GE201.out GE202.out)) (fun k_ h_ => h_)) (Kd.R_lt (kr HO_5.out))) (below_size (bl2 HB.out GE201.out GE202.out))); replace HO_5 := ak (Kd.R_mono (Kd.R_told (Kd.R_told (Kd.R_old (kr HO_5.out) hb) (Kd.R_base ho0)) (Kd.R_base ho1)) (fun _ h_ => h_.1)); replace BK201 := ak (blk_below (bk BK201.out) hb); replace BK202 := ak (blk_below (bk BK202.out) hb); replace HB := ak (below_step (bl2 HB.out GE201.out GE202.out) hb); clear hb ho0 ho1; obtain ⟨hcz92_0, hcz92_1, hcz92_2, hcz92_3, hfz92_0, hfz92_1, hfz92_2, hfz92_3⟩ := b4 BK202.out; obtain ⟨Ao93, co93, eo93⟩ := Kd.R_slice HO245.out; subst eo93; obtain ⟨Ao94, co94, eo94⟩ := Kd.R_slice HO248.out; subst eo94))
        refine bodyPost_ret (results_ct rfl _ _ gb202 28 #[.int .i64 t241, .int .i64 t242, .slice Ao93 t243.length co93, .slice Ao94 t246.length co94] (0, 0) _ rfl (bq BK202.out) Try.underlying28 rfl (by kernel_rfl)) rfl ?_
        exact ⟨_, _, _, by first | rfl | (simp [errW_none, errW_some] <;> rfl) | (simp [*, errW_none, errW_some] <;> rfl), by (with_reducible repeat (first | apply Kd.R_alloc | apply Kd.R_drewN | apply Kd.R_drew)); exact Kd.R_mono (Kd.R_far (p := ⟨gb202, 3, none⟩) (Kd.R_far (p := ⟨gb202, 2, none⟩) (Kd.R_far (p := ⟨gb202, 1, none⟩) (Kd.R_far (p := ⟨gb202, 0, none⟩) (Kd.R_types HO245.out BK202.out (by decide)) (fun _ hk => hk.2) (.int .i64 t241)) (fun _ hk => hk.2) (.int .i64 t242)) (fun _ hk => hk.2) (.slice Ao93 t243.length co93)) (fun _ hk => hk.2) (.slice Ao94 t246.length co94)) (fun _ hk => ⟨hk.1.1.1, ⟨hk.1.1.2, hk.1.2⟩⟩), by (with_reducible repeat (first | apply Kd.R_alloc | apply Kd.R_drewN | apply Kd.R_drew)); exact Kd.R_mono (Kd.R_far (p := ⟨gb202, 3, none⟩) (Kd.R_far (p := ⟨gb202, 2, none⟩) (Kd.R_far (p := ⟨gb202, 1, none⟩) (Kd.R_far (p := ⟨gb202, 0, none⟩) (Kd.R_types HO248.out BK202.out (by decide)) (fun _ hk => hk.2) (.int .i64 t241)) (fun _ hk => hk.2) (.int .i64 t242)) (fun _ hk => hk.2) (.slice Ao93 t243.length co93)) (fun _ hk => hk.2) (.slice Ao94 t246.length co94)) (fun _ hk => ⟨hk.1.1.1, ⟨hk.1.1.2, hk.1.2⟩⟩), by (with_reducible repeat (first | apply Kd.R_alloc | apply Kd.R_drewN | apply Kd.R_drew)); exact Kd.R_mono (Kd.R_far (p := ⟨gb202, 3, none⟩) (Kd.R_far (p := ⟨gb202, 2, none⟩) (Kd.R_far (p := ⟨gb202, 1, none⟩) (Kd.R_far (p := ⟨gb202, 0, none⟩) (Kd.R_types HO_5.out BK202.out (by decide)) (fun _ hk => hk.2) (.int .i64 t241)) (fun _ hk => hk.2) (.int .i64 t242)) (fun _ hk => hk.2) (.slice Ao93 t243.length co93)) (fun _ hk => hk.2) (.slice Ao94 t246.length co94)) (fun _ hk => ⟨hk.1.1.1, ⟨hk.1.1.2, hk.1.2⟩⟩), bl2 HB.out GE201.out GE202.out⟩
     ·rw [if_neg c53] at H
      have c53b0 : decide (0 < x6_2) = false := decide_eq_false c53
      clear c53
      replace H := Option.bind_eq_some_iff.mp H
      obtain ⟨⟨t249, t250, t251, t254⟩, A950, H⟩ := H
      try dsimp only at H
      have A95 := ak A950
      clear A950
      simp only [Option.some.injEq, Prod.mk.injEq] at H
      obtain ⟨rfl, rfl, rfl, rfl, rfl⟩ := H
      try go_wp2
      replace HO_5 := ak (Kd.R_drew HO_5.out)
      replace HO_202002 := ak (Kd.V_drew HO_202002.out)
      replace HO_202003 := ak (Kd.V_drew HO_202003.out)
      replace BK201 := ak (blk_drew BK201.out)
      replace BK202 := ak (blk_drew BK202.out)
      replace HB := ak (below_drew1 HB.out)
      refine start_ (n := 14) (S := fun w' => True) (ds := []) #[false, false, false, false, false, false, false, false, false, false, false, false, false, false] (by kernel_rfl) rfl rfl trivial (fun hHeld => ?_); refine with_tabW spec_l12Fit.tab8 spec_l12Fit.bits8 (fun HT_ HW_ => ?_)
      generalize wr.drew = w96 at HO_5 HO_202002 HO_202003 BK201 BK202 HB hHeld ⊢
      refine pu 0 (some 45) HT_ ?_
      refine pu 1 (some 46) HT_ ?_
      refine pu 2 (some 47) HT_ ?_
      refine pn 3 (some 48) HT_ ?_
      refine pn 4 (some 49) HT_ ?_
      refine pn 5 (some 50) HT_ ?_
      refine pn 6 (some 51) HT_ ?_
      refine pn 7 (some 52) HT_ ?_
      refine pn 8 (some 53) HT_ ?_
      refine pn 9 (some 54) HT_ ?_
      refine pn 10 (some 55) HT_ ?_
      refine pn 11 (some 56) HT_ ?_
      refine pn 12 (some 57) HT_ ?_
      refine pu 13 (some 58) HT_ ?_
      refine done_ (done_of HT_.out (by kernel_rfl)) ?_
      have hnb97 := NB201_202.out
      have hnc97 := NB202_201.out
      obtain ⟨hcz98_0, hcz98_1, hcz98_2, hcz98_3, hfz98_0, hfz98_1, hfz98_2, hfz98_3⟩ := b4 BK201.out
      obtain ⟨Ao99, co99, eo99⟩ := Kd.V_slice HO_202002.out
      subst eo99
      obtain ⟨Ao100, co100, eo100⟩ := Kd.V_slice HO_202003.out
      subst eo100
      try go_wp2_with (first | (refine gL 42 Try.func42 (some 77) #[.agg #[.int .i64 a0_0, .int .i64 a0_1, .slice Ao99 x202002_2.length co99, .slice Ao100 x202003_1.length co100]] ?_; (with_reducible refine (spec_l12Own.calls a0_0 a0_1 _ _ x202002_2 _ _ x202003_1 t249 t250 t251 t254 _ ?side1 ?side2 ?side3 ?side4 A95.out).mono ?_); (case side1 => exact kc (Kd.V_reads' HO_202002.out).2.2); (case side2 => exact (Kd.V_reads' HO_202002.out).2.1); (case side3 => exact kc (Kd.V_reads' HO_202003.out).2.2); (case side4 => exact (Kd.V_reads' HO_202003.out).2.1); rintro e w101 ⟨v252, v255, rfl, ho0, ho1, hb⟩; refine ⟨_, rfl, ?_⟩; replace HO_202002 := ak (Kd.V_mono (Kd.V_told (Kd.V_told (Kd.V_old (by (with_reducible repeat (first | apply Kd.V_alloc | apply Kd.V_drewN | apply Kd.V_drew)); exact HO_202002.out) hb) (Kd.R_base ho0)) (Kd.R_base ho1)) (fun _ h_ => h_.1)); replace HO_202003 := ak (Kd.V_mono (Kd.V_told (Kd.V_told (Kd.V_old (by (with_reducible repeat (first | apply Kd.V_alloc | apply Kd.V_drewN | apply Kd.V_drew)); exact HO_202003.out) hb) (Kd.R_base ho0)) (Kd.R_base ho1)) (fun _ h_ => h_.1)); have HO253 := ak (Kd.R_lower (Kd.R_new' (Kd.R_newM (M := fun k_ => (w.heap.size ≤ k_)) ho0 (below_size (bl2 HB.out GE201.out GE202.out)) (fun k_ h_ => h_)) (Kd.R_lt (kr HO_5.out))) (below_size (bl2 HB.out GE201.out GE202.out))); have HO256 := ak (Kd.R_lower (Kd.R_new' (Kd.R_newM (M := fun k_ => (w.heap.size ≤ k_)) ho1 (below_size (bl2 HB.out GE201.out GE202.out)) (fun k_ h_ => h_)) (Kd.R_lt (kr HO_5.out))) (below_size (bl2 HB.out GE201.out GE202.out))); replace HO_5 := ak (Kd.R_mono (Kd.R_told (Kd.R_told (Kd.R_old (kr HO_5.out) hb) (Kd.R_base ho0)) (Kd.R_base ho1)) (fun _ h_ => h_.1)); replace BK201 := ak (blk_below (bk BK201.out) hb); replace BK202 := ak (blk_below (bk BK202.out) hb); replace HB := ak (below_step (bl2 HB.out GE201.out GE202.out) hb); clear hb ho0 ho1; obtain ⟨hcz102_0, hcz102_1, hcz102_2, hcz102_3, hfz102_0, hfz102_1, hfz102_2, hfz102_3⟩ := b4 BK202.out; obtain ⟨Ao103, co103, eo103⟩ := Kd.R_slice HO253.out; subst eo103; obtain ⟨Ao104, co104, eo104⟩ := Kd.R_slice HO256.out; subst eo104))
      refine bodyPost_ret (results_ct rfl _ _ gb202 28 #[.int .i64 t249, .int .i64 t250, .slice Ao103 t251.length co103, .slice Ao104 t254.length co104] (0, 0) _ rfl (bq BK202.out) Try.underlying28 rfl (by kernel_rfl)) rfl ?_
      exact ⟨_, _, _, by first | rfl | (simp [errW_none, errW_some] <;> rfl) | (simp [*, errW_none, errW_some] <;> rfl), by (with_reducible repeat (first | apply Kd.R_alloc | apply Kd.R_drewN | apply Kd.R_drew)); exact Kd.R_mono (Kd.R_far (p := ⟨gb202, 3, none⟩) (Kd.R_far (p := ⟨gb202, 2, none⟩) (Kd.R_far (p := ⟨gb202, 1, none⟩) (Kd.R_far (p := ⟨gb202, 0, none⟩) (Kd.R_types HO253.out BK202.out (by decide)) (fun _ hk => hk.2) (.int .i64 t249)) (fun _ hk => hk.2) (.int .i64 t250)) (fun _ hk => hk.2) (.slice Ao103 t251.length co103)) (fun _ hk => hk.2) (.slice Ao104 t254.length co104)) (fun _ hk => ⟨hk.1.1.1, ⟨hk.1.1.2, hk.1.2⟩⟩), by (with_reducible repeat (first | apply Kd.R_alloc | apply Kd.R_drewN | apply Kd.R_drew)); exact Kd.R_mono (Kd.R_far (p := ⟨gb202, 3, none⟩) (Kd.R_far (p := ⟨gb202, 2, none⟩) (Kd.R_far (p := ⟨gb202, 1, none⟩) (Kd.R_far (p := ⟨gb202, 0, none⟩) (Kd.R_types HO256.out BK202.out (by decide)) (fun _ hk => hk.2) (.int .i64 t249)) (fun _ hk => hk.2) (.int .i64 t250)) (fun _ hk => hk.2) (.slice Ao103 t251.length co103)) (fun _ hk => hk.2) (.slice Ao104 t254.length co104)) (fun _ hk => ⟨hk.1.1.1, ⟨hk.1.1.2, hk.1.2⟩⟩), by (with_reducible repeat (first | apply Kd.R_alloc | apply Kd.R_drewN | apply Kd.R_drew)); exact Kd.R_mono (Kd.R_far (p := ⟨gb202, 3, none⟩) (Kd.R_far (p := ⟨gb202, 2, none⟩) (Kd.R_far (p := ⟨gb202, 1, none⟩) (Kd.R_far (p := ⟨gb202, 0, none⟩) (Kd.R_types HO_5.out BK202.out (by decide)) (fun _ hk => hk.2) (.int .i64 t249)) (fun _ hk => hk.2) (.int .i64 t250)) (fun _ hk => hk.2) (.slice Ao103 t251.length co103)) (fun _ hk => hk.2) (.slice Ao104 t254.length co104)) (fun _ hk => ⟨hk.1.1.1, ⟨hk.1.1.2, hk.1.2⟩⟩), bl2 HB.out GE201.out GE202.out⟩

end Go.Proofs.Ytfopmaiednikhaa.PFnParts
