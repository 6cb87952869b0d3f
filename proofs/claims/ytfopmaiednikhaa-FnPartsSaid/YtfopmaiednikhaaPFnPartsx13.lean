-- written by a program of this session (wip/tool)
import Derived.Test.YtfopmaiednikhaaPFnPartsx0
import Derived.Test.YtfopmaiednikhaaPFnPartsx2
import Derived.Test.YtfopmaiednikhaaPFnPartsx11
import Derived.Test.YtfopmaiednikhaaPFnPartsx12
import Derived.Test.YtfopmaiednikhaaVOwn0
import Derived.Test.YtfopmaiednikhaaVOwnOpen
import Derived.WalkKit
import Derived.BigCall
import Derived.Lib.SliceRun
import Derived.Deep.RegionLaw
import Derived.Maps.OwnSet
import Derived.Maps.OwnOps
import Derived.Maps.Views
import Derived.Test.YtfopmaiednikhaaVWZeros
import Derived.Test.YtfopmaiednikhaaVWArr
import Derived.Test.YtfopmaiednikhaaVOwnShort
import Derived.Test.YtfopmaiednikhaaOwnSq
namespace Go.Proofs.Ytfopmaiednikhaa.PFnParts
open Go.RowKit Go.Proofs.YtfopmaiednikhaaW.PrintWords Go.Proofs.YtfopmaiednikhaaW.PrintLast Go.Proofs.YtfopmaiednikhaaW.PrintMore Go.Shelf Go.Proofs.YtfopmaiednikhaaOwn
attribute [local go_sem] max2_int min2_int max_two min_two max_three min_three max_four min_four   -- for this text's walks alone
set_option linter.unusedVariables false
set_option linter.unusedSimpArgs false

/-! ### impl_BytesIn: function 38 -/
def impl_BytesIn.f (k : Nat) (a0_0 : Int) (a0_1 : Int) (l0_2 : List (S45)) (l0_3 : List (S45)) : Option (Int × Int × Bool) := (impl_GoodSegmented.f k a0_0 a0_1 l0_2 l0_3).bind fun t609 => (if t609 = true then ((impl_weight.f k l0_2).bind fun t610 => ((impl_weight.f k l0_3).bind fun t611 => (some (t610, t611, true)))) else (some (0, 0, false)))
theorem impl_BytesIn.mono : ∀ a0 a1 a2 a3 k, LeO (impl_BytesIn.f k a0 a1 a2 a3) (impl_BytesIn.f (k + 1) a0 a1 a2 a3) := by
 intro a0 a1 a2 a3 k
 unfold impl_BytesIn.f
 repeat' first
   | (with_reducible exact impl_GoodSegmented.mono _ _ _ _ _)
   | (with_reducible exact impl_weight.mono _ _)
   | (with_reducible exact LeO.refl _)
   | (with_reducible exact LeO.none _)
   | (with_reducible refine LeO.ite ?_ ?_)
   | (with_reducible refine LeO.bind ?_ (fun _ => ?_))
   | exact impl_GoodSegmented.mono _ _ _ _ _
   | exact impl_weight.mono _ _
   | exact LeO.none _
   | refine LeO.ite ?_ ?_
   | refine LeO.bind ?_ (fun _ => ?_)
def impl_BytesIn.T3 : Bool × List (List Nat × List Nat) := (true, [([], []), ([0], [0]), ([1], [1]), ([], []), ([3], [3]), ([4, 2], [4]), ([2, 5, 0, 1, 2], [2]), ([5, 6, 0, 1, 2, 3, 4, 5, 6], [5]), ([7, 0, 1, 2, 3, 4, 5, 6, 7], [])])
def impl_BytesIn.B3 : List Nat := [0, 1, 3, 0, 8, 31, 63, 127, 255]
theorem impl_BytesIn.tab3 : rtab .any (opsOf Try.f38 3) = impl_BytesIn.T3 := by kernel_rfl
theorem impl_BytesIn.bits3 : waitsOk impl_BytesIn.T3.2 impl_BytesIn.B3 = true := by kernel_rfl
set_option maxHeartbeats 8000000 in
set_option maxRecDepth 100000 in
theorem impl_BytesIn.calls (k : Nat) (a0_0 : Int) (a0_1 : Int) (A0_2 : Option Addr) (c0_2 : Nat) (l0_2 : List (S45)) (A0_3 : Option Addr) (c0_3 : Nat) (l0_3 : List (S45)) (r1 : Int) (r2 : Int) (r3 : Bool) (w : World) (hr0_2 : Kd.C k45 w A0_2 l0_2.length l0_2) (hc0_2 : l0_2.length ≤ c0_2) (hr0_3 : Kd.C k45 w A0_3 l0_3.length l0_3) (hc0_3 : l0_3.length ≤ c0_3) (h : impl_BytesIn.f k a0_0 a0_1 l0_2 l0_3 = some (r1, r2, r3)) :
  Calls Try.prog 38 #[.agg #[.int .i64 a0_0, .int .i64 a0_1, .slice A0_2 l0_2.length c0_2, .slice A0_3 l0_3.length c0_3]] w fun e w' => e = .returned (.tuple #[.int .i64 r1, .int .i64 r2, .bool r3]) ∧ Below w.heap.size w w' := by
 have hu28 := Try.underlying28
 have HR0_2 := ak hr0_2
 have HC0_2 := ak hc0_2
 clear hr0_2 hc0_2
 have HR0_3 := ak hr0_3
 have HC0_3 := ak hc0_3
 clear hr0_3 hc0_3
 have HB := ak (Below.refl w.heap.size w)
 have H : ((impl_GoodSegmented.f k a0_0 a0_1 l0_2 l0_3).bind fun t609 => (if t609 = true then ((impl_weight.f k l0_2).bind fun t610 => ((impl_weight.f k l0_3).bind fun t611 => (some (t610, t611, true)))) else (some (0, 0, false)))) = some (r1, r2, r3) := h
 clear h
 replace H := Option.bind_eq_some_iff.mp H
 obtain ⟨t609, A20, H⟩ := H
 try dsimp only at H
 have A2 := ak A20
 clear A20
 by_cases c3 : t609 = true
 ·subst c3
  have H1 : ((impl_weight.f k l0_2).bind fun t610 => ((impl_weight.f k l0_3).bind fun t611 => (some (t610, t611, true)))) = some (r1, r2, r3) := by rw [if_pos rfl] at H; exact H
  clear H
  have H := H1
  clear H1
  replace H := Option.bind_eq_some_iff.mp H
  obtain ⟨t610, A40, H⟩ := H
  try dsimp only at H
  have A4 := ak A40
  clear A40
  replace H := Option.bind_eq_some_iff.mp H
  obtain ⟨t611, A50, H⟩ := H
  try dsimp only at H
  have A5 := ak A50
  clear A50
  simp only [Option.some.injEq, Prod.mk.injEq] at H
  obtain ⟨rfl, rfl, rfl⟩ := H
  go_enter Try.func38, Try.ntmps38
  try go_wp2_with (first | (refine bE 1 #[.int .i64 a0_0, .int .i64 a0_1, .slice A0_2 l0_2.length c0_2, .slice A0_3 l0_3.length c0_3] 28 ?_; intro gb608 hg w6 hbox hb; have BK608 := ak hbox; have GW608 := gs hg (bl HB.out); have GE608 := gs hg (bl HB.out); replace HB := ak (below_step (bl HB.out) hb); clear hb hbox hg; obtain ⟨hcz7_0, hcz7_1, hcz7_2, hcz7_3, hfz7_0, hfz7_1, hfz7_2, hfz7_3⟩ := b4 BK608.out) | (refine gL 22 Try.func22 (some 6) #[.agg #[.int .i64 a0_0, .int .i64 a0_1, .slice A0_2 l0_2.length c0_2, .slice A0_3 l0_3.length c0_3]] ?_; (with_reducible refine (impl_GoodSegmented.calls k a0_0 a0_1 _ _ l0_2 _ _ l0_3 true _ ?side1 ?side2 ?side3 ?side4 A2.out).mono ?_); (case side1 => exact kc (Kd.C_below HR0_2.out HB.out)); (case side2 => exact HC0_2.out); (case side3 => exact kc (Kd.C_below HR0_3.out HB.out)); (case side4 => exact HC0_3.out); rintro e w8 ⟨rfl, hb⟩; refine ⟨_, rfl, ?_⟩; replace BK608 := ak (blk_below (bk BK608.out) hb); replace HB := ak (below_step (bl1 HB.out GE608.out) hb); clear hb))
  replace BK608 := ak (blk_drew BK608.out)
  replace HB := ak (below_drew1 HB.out)
  refine start_ (n := 9) (S := fun w' => w'.cell? ⟨gb608, 0, none⟩ = some (.int .i64 a0_0) ∧ w'.cell? ⟨gb608, 1, none⟩ = some (.int .i64 a0_1) ∧ w'.cell? ⟨gb608, 2, none⟩ = some (.slice A0_2 l0_2.length c0_2) ∧ w'.cell? ⟨gb608, 3, none⟩ = some (.slice A0_3 l0_3.length c0_3)) (ds := []) #[false, false, false, false, false, false, false, false, false] (by kernel_rfl) rfl rfl ⟨(blk_cell BK608.out 0).trans rfl, (blk_cell BK608.out 1).trans rfl, (blk_cell BK608.out 2).trans rfl, (blk_cell BK608.out 3).trans rfl⟩ (fun hHeld => ?_); refine with_tabW impl_BytesIn.tab3 impl_BytesIn.bits3 (fun HT_ HW_ => ?_)
  generalize w8.drew = w9 at BK608 HB hHeld ⊢
  refine pu 0 (some 8) HT_ ?_
  refine pu 3 (some 11) HT_ ?_
  refine tk 1 (some 9) HT_ HW_ hHeld ?_
  refine tk 4 (some 12) HT_ HW_ hHeld ?_
  refine on 2 (some 10) HT_ (fun K hK => ?_)
  refine gO Try.func65 #[.slice A0_2 l0_2.length c0_2] ?_
  with_reducible refine (impl_weight.calls k _ _ l0_2 t610 _ ?side1 ?side2 A4.out).mono ?_
  (case side1 => exact kc (Kd.C_below HR0_2.out HB.out))
  (case side2 => exact HC0_2.out)
  rintro e w10 ⟨rfl, hb⟩
  refine ⟨_, rfl, ?_⟩
  replace BK608 := ak (blk_below (bk BK608.out) hb)
  replace HB := ak (below_step (bl1 HB.out GE608.out) hb)
  clear hb
  (try clear hb2)
  (try clear hk)
  (try clear hi)
  refine hK.out _ _ ⟨(blk_cell BK608.out 0).trans rfl, (blk_cell BK608.out 1).trans rfl, (blk_cell BK608.out 2).trans rfl, (blk_cell BK608.out 3).trans rfl⟩ (fun hHeld => ?_)
  clear hK K
  refine norm_ (a' := ?_) ?_ ?_
  rotate_left
  ·show Act.put _ (some 10) _ = _
   simp only [Act.put, List.setIfInBounds_toArray, List.set_cons_zero, List.set_cons_succ, i64_w, i32_w]
   rfl
  refine on 5 (some 13) HT_ (fun K hK => ?_)
  refine gO Try.func65 #[.slice A0_3 l0_3.length c0_3] ?_
  with_reducible refine (impl_weight.calls k _ _ l0_3 t611 _ ?side1 ?side2 A5.out).mono ?_
  (case side1 => exact kc (Kd.C_below HR0_3.out HB.out))
  (case side2 => exact HC0_3.out)
  rintro e w11 ⟨rfl, hb⟩
  refine ⟨_, rfl, ?_⟩
  replace BK608 := ak (blk_below (bk BK608.out) hb)
  replace HB := ak (below_step (bl1 HB.out GE608.out) hb)
  clear hb
  (try clear hb2)
  (try clear hk)
  (try clear hi)
  refine hK.out _ _ ⟨(blk_cell BK608.out 0).trans rfl, (blk_cell BK608.out 1).trans rfl, (blk_cell BK608.out 2).trans rfl, (blk_cell BK608.out 3).trans rfl⟩ (fun hHeld => ?_)
  clear hK K
  refine norm_ (a' := ?_) ?_ ?_
  rotate_left
  ·show Act.put _ (some 13) _ = _
   simp only [Act.put, List.setIfInBounds_toArray, List.set_cons_zero, List.set_cons_succ, i64_w, i32_w]
   rfl
  refine pu 6 (some 2) HT_ ?_
  refine pu 7 (some 3) HT_ ?_
  refine pu 8 (some 4) HT_ ?_
  refine done_ (done_of HT_.out (by kernel_rfl)) ?_
  try go_wp2
  go_ret3
  exact ⟨by first | rfl | (simp [errW_none, errW_some] <;> rfl) | (simp [*, errW_none, errW_some] <;> rfl), bl1 HB.out GE608.out⟩
 ·replace c3 := Bool.eq_false_iff.mpr c3
  subst c3
  have H1 : (some (0, 0, false)) = some (r1, r2, r3) := by rw [if_neg (show ¬ (false = true) by decide)] at H; exact H
  clear H
  have H := H1
  clear H1
  simp only [Option.some.injEq, Prod.mk.injEq] at H
  obtain ⟨rfl, rfl, rfl⟩ := H
  go_enter Try.func38, Try.ntmps38
  go_wp2_with (first | (refine bE 1 #[.int .i64 a0_0, .int .i64 a0_1, .slice A0_2 l0_2.length c0_2, .slice A0_3 l0_3.length c0_3] 28 ?_; intro gb608 hg w12 hbox hb; have BK608 := ak hbox; have GW608 := gs hg (bl HB.out); have GE608 := gs hg (bl HB.out); replace HB := ak (below_step (bl HB.out) hb); clear hb hbox hg; obtain ⟨hcz13_0, hcz13_1, hcz13_2, hcz13_3, hfz13_0, hfz13_1, hfz13_2, hfz13_3⟩ := b4 BK608.out) | (refine gL 22 Try.func22 (some 6) #[.agg #[.int .i64 a0_0, .int .i64 a0_1, .slice A0_2 l0_2.length c0_2, .slice A0_3 l0_3.length c0_3]] ?_; (with_reducible refine (impl_GoodSegmented.calls k a0_0 a0_1 _ _ l0_2 _ _ l0_3 false _ ?side1 ?side2 ?side3 ?side4 A2.out).mono ?_); (case side1 => exact kc (Kd.C_below HR0_2.out HB.out)); (case side2 => exact HC0_2.out); (case side3 => exact kc (Kd.C_below HR0_3.out HB.out)); (case side4 => exact HC0_3.out); rintro e w14 ⟨rfl, hb⟩; refine ⟨_, rfl, ?_⟩; replace BK608 := ak (blk_below (bk BK608.out) hb); replace HB := ak (below_step (bl1 HB.out GE608.out) hb); clear hb))
  go_ret3
  exact ⟨by first | rfl | (simp [errW_none, errW_some] <;> rfl) | (simp [*, errW_none, errW_some] <;> rfl), bl1 HB.out GE608.out⟩

/-! ### impl_KeysIn: function 39 -/
def impl_KeysIn.l0 : Nat → List ByteArray → List (S45) → Int → Int → Option (List ByteArray × Bool)
 | 0, _, _, _, _ => none
 | k + 1, x4, x15, x16, x17 => if x17 < x16 then (if 0 ≤ x17 then (if x17 < (x15.length : Int) then (if x4.length < 8796093022208 then (impl_KeysIn.l0 k (x4 ++ [(rd_T45 x15 x17).f0]) x15 x16 (wrap64 (x17 + 1))) else (none)) else (none)) else (none)) else (some (x4, true))
def impl_KeysIn.f (k : Nat) (a0_0 : Int) (a0_1 : Int) (l0_2 : List (S45)) (l0_3 : List (S45)) : Option (List ByteArray × Bool) := (impl_GoodSegmented.f k a0_0 a0_1 l0_2 l0_3).bind fun t613 => (if t613 = true then ((slices_ConcatE.f (([l0_3, l0_2] : List (List (S45))))).bind fun t617 => (impl_KeysIn.l0 k ([] : List ByteArray) t617 (t617.length : Int) 0)) else (some (([] : List ByteArray), false)))
theorem impl_KeysIn.mono_l : ∀ k, (∀ y0 y1 y2 y3, LeO (impl_KeysIn.l0 k y0 y1 y2 y3) (impl_KeysIn.l0 (k + 1) y0 y1 y2 y3))
 | 0 => fun _ _ _ _ r h => by simp [impl_KeysIn.l0] at h
 | k + 1 => by
  have ih0 := impl_KeysIn.mono_l k
  ·intro y0 y1 y2 y3
   unfold impl_KeysIn.l0
   repeat' first
   | (with_reducible exact ih0 _ _ _ _)
   | (with_reducible exact impl_GoodSegmented.mono _ _ _ _ _)
   | (with_reducible exact LeO.refl _)
   | (with_reducible exact LeO.none _)
   | (with_reducible refine LeO.ite ?_ ?_)
   | (with_reducible refine LeO.bind ?_ (fun _ => ?_))
   | exact ih0 _ _ _ _
   | exact impl_GoodSegmented.mono _ _ _ _ _
   | exact LeO.none _
   | refine LeO.ite ?_ ?_
   | refine LeO.bind ?_ (fun _ => ?_)
theorem impl_KeysIn.mono : ∀ a0 a1 a2 a3 k, LeO (impl_KeysIn.f k a0 a1 a2 a3) (impl_KeysIn.f (k + 1) a0 a1 a2 a3) := by
 intro a0 a1 a2 a3 k
 have ih0 := impl_KeysIn.mono_l k
 unfold impl_KeysIn.f
 repeat' first
   | (with_reducible exact ih0 _ _ _ _)
   | (with_reducible exact impl_GoodSegmented.mono _ _ _ _ _)
   | (with_reducible exact LeO.refl _)
   | (with_reducible exact LeO.none _)
   | (with_reducible refine LeO.ite ?_ ?_)
   | (with_reducible refine LeO.bind ?_ (fun _ => ?_))
   | exact ih0 _ _ _ _
   | exact impl_GoodSegmented.mono _ _ _ _ _
   | exact LeO.none _
   | refine LeO.ite ?_ ?_
   | refine LeO.bind ?_ (fun _ => ?_)
set_option maxHeartbeats 4000000 in
set_option maxRecDepth 100000 in
theorem impl_KeysIn.calls (k : Nat) (a0_0 : Int) (a0_1 : Int) (A0_2 : Option Addr) (c0_2 : Nat) (l0_2 : List (S45)) (A0_3 : Option Addr) (c0_3 : Nat) (l0_3 : List (S45)) (r1 : List ByteArray) (r2 : Bool) (w : World) (hr0_2 : Kd.C k45 w A0_2 l0_2.length l0_2) (hc0_2 : l0_2.length ≤ c0_2) (hr0_3 : Kd.C k45 w A0_3 l0_3.length l0_3) (hc0_3 : l0_3.length ≤ c0_3) (h : impl_KeysIn.f k a0_0 a0_1 l0_2 l0_3 = some (r1, r2)) :
  Calls Try.prog 39 #[.agg #[.int .i64 a0_0, .int .i64 a0_1, .slice A0_2 l0_2.length c0_2, .slice A0_3 l0_3.length c0_3]] w fun e w' => ∃ v0_ : Value, e = .returned (.tuple #[v0_, .bool r2]) ∧ Kd.R Kd.string 9 w' w.heap.size (fun _ => True) v0_ r1 ∧ Below w.heap.size w w' := by
 have HR2 := ak hr0_2
 have HC2 := ak hc0_2
 have HR3 := ak hr0_3
 have HC3 := ak hc0_3
 clear hr0_2 hc0_2 hr0_3 hc0_3
 unfold impl_KeysIn.f at h
 obtain ⟨t1, A1, h⟩ := Option.bind_eq_some_iff.mp h
 have A1 := ak A1
 cases t1 with
 | false =>
  simp only [Bool.false_eq_true, if_false, Option.some.injEq, Prod.mk.injEq] at h
  obtain ⟨rfl, rfl⟩ := h
  go_enter Try.func39, Try.ntmps39
  go_wp2_with (go_at_call 22; refine (impl_GoodSegmented.calls k a0_0 a0_1 A0_2 c0_2 l0_2 A0_3 c0_3 l0_3 false _ (kc HR2.out) HC2.out (kc HR3.out) HC3.out A1.out).mono ?_; rintro e w1 ⟨rfl, hb⟩; have HB : Aside0 (Below w.heap.size w w1) := ⟨below_step (bl (Below.refl _ _)) hb⟩; clear hb)
  go_ret2
  exact ⟨_, rfl, Kd.R_nil _ _ _ _ _, HB.out⟩
 | true =>
  rw [if_pos rfl] at h
  obtain ⟨l, A2, H⟩ := Option.bind_eq_some_iff.mp h
  have A2 := ak A2
  have H' := ak H
  clear H h
  go_enter Try.func39, Try.ntmps39
  go_wp2_with (first
   | (go_at_call 22; refine (impl_GoodSegmented.calls k a0_0 a0_1 A0_2 c0_2 l0_2 A0_3 c0_3 l0_3 true _ (kc HR2.out) HC2.out (kc HR3.out) HC3.out A1.out).mono ?_; rintro e w1 ⟨rfl, hb⟩; have HB : Aside0 (Below w.heap.size w w1) := ⟨below_step (bl (Below.refl _ _)) hb⟩; have BK := ak (blk_below (blk_new w (.cells #[.int .i64 a0_0, .int .i64 a0_1, .slice A0_2 l0_2.length c0_2, .slice A0_3 l0_3.length c0_3] 28)) hb); clear hb; have hz2 := (blk_cell BK.out 2).trans rfl; have hz3 := (blk_cell BK.out 3).trans rfl)
   | (go_at_call 60; refine (slices_ConcatE.calls (some ⟨w1.heap.size, 0, none⟩) 2 [l0_3, l0_2] l _ ?hC A2.out).mono ?_; (case hC => exact C_two HC3.out (Kd.C_alloc (Kd.C_below HR3.out HB.out) _) HC2.out (Kd.C_alloc (Kd.C_below HR2.out HB.out) _) (by rw [add_plain]; exact (blk_cell (blk_new w1 _) 0).trans rfl) (by rw [add_plain]; exact (blk_cell (blk_new w1 _) 1).trans rfl)); rintro e w2 ⟨v2, rfl, ho, hb⟩; obtain ⟨A2_, c2_, e2_⟩ := Kd.R_slice ho; subst e2_; have HO := ak (Kd.R_lower ho (show w.heap.size ≤ _ from below_size (bl HB.out))); replace HB := ak (below_step (bl HB.out) hb); clear ho hb hz2 hz3 BK))
  go_loopg [4, 17] k (fun kq v4 v17 wr => ∃ (x4 : List ByteArray) (j : Int), v17 = .int .i64 j ∧ Aside0 (impl_KeysIn.l0 kq x4 l (l.length : Int) j = some (r1, r2)) ∧ Aside0 (kq ≤ k) ∧ Aside0 (Kd.R Kd.string 9 wr w.heap.size (fun _ => True) v4 x4) ∧ Aside0 (Kd.R k45 45 wr w.heap.size (fun _ => True) (.slice A2_ l.length c2_) l) ∧ Aside0 (Below w.heap.size w wr))
  case atStart => exact ⟨[], 0, rfl, H', ⟨Nat.le_refl _⟩, ⟨Kd.R_nil _ _ _ _ _⟩, HO, HB⟩
  case round =>
   clear HB HO H'
   obtain ⟨x4, j, rfl, HA, HK, H4, HO, HB⟩ := hrel
   cases gk with
   | zero => exact absurd HA.out (by simp [impl_KeysIn.l0])
   | succ k1 =>
    have H := HA.out
    clear HA
    simp only [impl_KeysIn.l0] at H
    obtain ⟨A4_, c4_, e4_⟩ := Kd.R_slice H4.out
    subst e4_
    by_cases c1 : j < (l.length : Int)
    · rw [if_pos c1] at H
      have c1b := decide_eq_true c1
      by_cases c2 : 0 ≤ j
      · rw [if_pos c2, if_pos c1] at H
        by_cases c4 : x4.length < 8796093022208
        · rw [if_pos c4] at H
          have H2 := ak H
          have LM := ak c4
          obtain ⟨ad, ea, hx0, hx1⟩ := at_T45 (Kd.R_reads' HO.out).2.2 j c2 c1
          cases ea
          clear H c4
          generalize rd_T45 l j = y at hx0 hx1 H2
          go_wp2_with (first
           | ((with_reducible refine gate_builtin (b := .append) (xs := #[.tmp 21, .tmp 24]) rfl ?_); at_builtin; refine Kd.R_append Kd.string (w0 := w) w.heap.size rfl (.tmp 21) (.tmp 24) 38 9 (.string ⟨#[]⟩) 16 rfl Try.underlying38 (by kernel_rfl) rfl (by decide) (by omega) (.slice A4_ x4.length c4_) x4 y.f0 [.string y.f0] (fun _ => True) (fun _ => False) rfl (by simp [Act.eval]) ?aP (fun _ hk => hk.elim) ?aF ?aO ?aB ?aS ?aL ?_; (case aP => exact rfl); (case aF => exact fun _ _ => trivial); (case aO => exact kr H4.out); (case aB => exact bl HB.out); (case aS => exact below_size (bl HB.out)); (case aL => have := LM.out; omega); intro v5 w5 ho hb hg hat; have HO5 := ak ho; have HB5 := ak hb; have HL5 : Aside0 (Kd.R k45 45 w5 w.heap.size (fun _ => True) (.slice (some ad) l.length c2_) l) := ⟨Kd.R_mono (Kd.R_step (Kd.R_apart' (kr HO.out) (Kd.R_typed (kr H4.out)) (by decide)) (fun k_ hk hlt => hg.block k_ hlt hk.2)) (fun _ _ => trivial)⟩; clear ho hb hg hat hx0 hx1))
          go_roundg k1
          case measure => exact Nat.lt_succ_self _
          case rel => exact ⟨_, _, rfl, H2, ⟨by have := HK.out; omega⟩, HO5, HL5, HB5⟩
        · rw [if_neg c4] at H; exact absurd H (by simp)
      · rw [if_neg c2] at H; exact absurd H (by simp)
    · rw [if_neg c1] at H
      have c1b := decide_eq_false c1
      simp only [Option.some.injEq, Prod.mk.injEq] at H
      obtain ⟨rfl, rfl⟩ := H
      go_wp2
      go_ret2
      exact ⟨_, rfl, H4.out, HB.out⟩

/-! ### spec_DrawGetEntry: function 40 -/
def spec_DrawGetEntry.f (k : Nat) (l0 : List Int) : Option (Int × Int × (List (S45)) × (List (S45)) × ByteArray) := (spec_l1Cur_segmented.f k l0 0 0).bind fun bt627 => ((spec_l1Cur_of.f l0 bt627.2.2.2.2.1 bt627.2.2.2.2.2 (([(⟨#[97]⟩ : ByteArray), (⟨#[98]⟩ : ByteArray), (⟨#[99]⟩ : ByteArray), (⟨#[120]⟩ : ByteArray), (⟨#[]⟩ : ByteArray)] : List ByteArray))).bind fun bt640 => (some (bt627.1, bt627.2.1, bt627.2.2.1, bt627.2.2.2.1, bt640.1)))
theorem spec_DrawGetEntry.mono : ∀ a0 k, LeO (spec_DrawGetEntry.f k a0) (spec_DrawGetEntry.f (k + 1) a0) := by
 intro a0 k
 unfold spec_DrawGetEntry.f
 repeat' first
   | (with_reducible exact spec_l1Cur_segmented.mono _ _ _ _)
   | (with_reducible exact LeO.refl _)
   | (with_reducible exact LeO.none _)
   | (with_reducible refine LeO.ite ?_ ?_)
   | (with_reducible refine LeO.bind ?_ (fun _ => ?_))
   | exact spec_l1Cur_segmented.mono _ _ _ _
   | exact LeO.none _
   | refine LeO.ite ?_ ?_
   | refine LeO.bind ?_ (fun _ => ?_)
set_option maxHeartbeats 8000000 in
set_option maxRecDepth 100000 in
theorem spec_DrawGetEntry.calls (k : Nat) (A0 : Option Addr) (c0 : Nat) (l0 : List Int) (r1 : Int) (r2 : Int) (r3 : List (S45)) (r4 : List (S45)) (r5 : ByteArray) (w : World) (hr0 : Kd.C (Kd.int .u8) w A0 l0.length l0) (hc0 : l0.length ≤ c0) (h : spec_DrawGetEntry.f k l0 = some (r1, r2, r3, r4, r5)) :
  Calls Try.prog 40 #[.slice A0 l0.length c0] w fun e w' => ∃ v2_ v3_ : Value, e = .returned (.tuple #[.agg #[.int .i64 r1, .int .i64 r2, v2_, v3_], .string r5]) ∧ Kd.R k45 45 w' w.heap.size (fun k_ => some k_ ≠ (v3_ : Value).ownBlock) v2_ r3 ∧ Kd.R k45 45 w' w.heap.size (fun k_ => some k_ ≠ (v2_ : Value).ownBlock) v3_ r4 ∧ Below w.heap.size w w' := by
 have hu28 := Try.underlying28
 have hu78 := Try.underlying78
 have HR0 := ak hr0
 have HC0 := ak hc0
 clear hr0 hc0
 have HB := ak (Below.refl w.heap.size w)
 have H : ((spec_l1Cur_segmented.f k l0 0 0).bind fun bt627 => ((spec_l1Cur_of.f l0 bt627.2.2.2.2.1 bt627.2.2.2.2.2 (([(⟨#[97]⟩ : ByteArray), (⟨#[98]⟩ : ByteArray), (⟨#[99]⟩ : ByteArray), (⟨#[120]⟩ : ByteArray), (⟨#[]⟩ : ByteArray)] : List ByteArray))).bind fun bt640 => (some (bt627.1, bt627.2.1, bt627.2.2.1, bt627.2.2.2.1, bt640.1)))) = some (r1, r2, r3, r4, r5) := h
 clear h
 replace H := Option.bind_eq_some_iff.mp H
 obtain ⟨⟨t627, t628, t629, t632, t635, t636⟩, A20, H⟩ := H
 try dsimp only at H
 have A2 := ak A20
 clear A20
 obtain ⟨y637, hy637⟩ : ∃ y_ : List ByteArray, y_ = (([(⟨#[97]⟩ : ByteArray), (⟨#[98]⟩ : ByteArray), (⟨#[99]⟩ : ByteArray), (⟨#[120]⟩ : ByteArray), (⟨#[]⟩ : ByteArray)] : List ByteArray)) := ⟨_, rfl⟩
 replace H : ((spec_l1Cur_of.f l0 t635 t636 y637).bind fun bt640 => (some (t627, t628, t629, t632, bt640.1))) = some (r1, r2, r3, r4, r5) := by first | (rw [hy637]; with_reducible exact H) | (have H2_ := (Option.bind_some _ _).symm.trans H; rw [hy637]; with_reducible exact H2_) | (have H2_ := (Option.bind_some _ _).symm.trans H; with_reducible exact H2_) | with_reducible exact H | (rw [hy637]; exact H) | exact H
 have Ny637 := ak hy637
 clear hy637
 replace H := Option.bind_eq_some_iff.mp H
 obtain ⟨⟨t640, t641, t642⟩, A30, H⟩ := H
 try dsimp only at H
 have A3 := ak A30
 clear A30
 simp only [Option.some.injEq, Prod.mk.injEq] at H
 obtain ⟨rfl, rfl, rfl, rfl, rfl⟩ := H
 go_enter Try.func40, Try.ntmps40
 go_wp2_with (first | (refine bE 2 #[.int .i64 0, .int .i64 0, .slice none 0 0, .slice none 0 0] 28 ?_; intro gb625 hg w4 hbox hb; have BK625 := ak hbox; have GW625 := gs hg (bl HB.out); have GE625 := gs hg (bl HB.out); replace HB := ak (below_step (bl HB.out) hb); clear hb hbox hg) | (refine bE 7 #[.slice A0 l0.length c0, .int .i64 0, .int .u64 0] 78 ?_; intro gb626 hg w5 hbox hb; have BK626 := ak hbox; have GW626 := gs hg (bl1 HB.out GE625.out); have GE626 := gs hg (bl1 HB.out GE625.out); replace HB := ak (below_step (bl1 HB.out GE625.out) hb); have NB625_626 := nl hg BK625.out; have NB626_625 := ng hg BK625.out; replace BK625 := ak (blk_below (bk BK625.out) hb); clear hb hbox hg; have HI626 := ak (show IsS78 w w5 gb626 l0 0 0 from ⟨_, _, BK626.out, GE626.out, HR0.out⟩)) | (refine gL 63 Try.func63 (some 9) #[.pointer (some ⟨gb626, 0, none⟩)] ?_; (with_reducible refine (spec_l1Cur_segmented.calls k gb626 l0 0 0 t627 t628 t629 t632 t635 t636 w _ ?side1 ?side2 A2.out).mono ?_); (case side1 => exact is1 HI626.out NB626_625.out); (case side2 => exact bl2 HB.out (IsS78.ge HI626.out) GE625.out); rintro e w6 ⟨v630, v633, rfl, ho0, ho1, hi, hb, hk⟩; refine ⟨_, rfl, ?_⟩; replace BK625 := ak (KeepBut.blk hk (g' := gb625) (o := .cells #[.int .i64 0, .int .i64 0, .slice none 0 0, .slice none 0 0] 28 (0, 0)) (bk BK625.out) NB625_626.out (by simp)); have HO631 := ak (Kd.R_lower ho0 (below_size (bl2 HB.out (IsS78.ge HI626.out) GE625.out))); have HO634 := ak (Kd.R_lower ho1 (below_size (bl2 HB.out (IsS78.ge HI626.out) GE625.out))); replace HB := ak hb; replace HI626 := ak hi; clear hb hk hi ho0 ho1) | ((with_reducible refine gate_dst (N := 11) rfl ?_); refine Kd.R_lit Kd.string _ 9 ?hg (N := 11) ?hd (xs := ([(⟨#[97]⟩ : ByteArray), (⟨#[98]⟩ : ByteArray), (⟨#[99]⟩ : ByteArray), (⟨#[120]⟩ : ByteArray), (⟨#[]⟩ : ByteArray)] : List ByteArray)) (inner := [.string (⟨#[97]⟩ : ByteArray), .string (⟨#[98]⟩ : ByteArray), .string (⟨#[99]⟩ : ByteArray), .string (⟨#[120]⟩ : ByteArray), .string (⟨#[]⟩ : ByteArray)]) (ok := fun _ => True) (okp := fun _ => True) ?hr ?hp (fun _ hk => hk) trivial (Below.refl _ _) (Nat.le_refl _) (by simp) ?_; (case hd => rfl); (case hg => rfl); (case hr => first | (go_simp; done) | (go_simp; rfl)); (case hp => exact (Reps.one (show Kd.M Kd.string _ _ _ (⟨#[97]⟩ : ByteArray) [.string (⟨#[97]⟩ : ByteArray)] from rfl) (Reps.one (show Kd.M Kd.string _ _ _ (⟨#[98]⟩ : ByteArray) [.string (⟨#[98]⟩ : ByteArray)] from rfl) (Reps.one (show Kd.M Kd.string _ _ _ (⟨#[99]⟩ : ByteArray) [.string (⟨#[99]⟩ : ByteArray)] from rfl) (Reps.one (show Kd.M Kd.string _ _ _ (⟨#[120]⟩ : ByteArray) [.string (⟨#[120]⟩ : ByteArray)] from rfl) (Reps.one (show Kd.M Kd.string _ _ _ (⟨#[]⟩ : ByteArray) [.string (⟨#[]⟩ : ByteArray)] from rfl) (Reps.none _ _))))))); intro v638 w7 ho8 hb hg_ hnew_; clear hg_ hnew_; (first | rw [← Ny637.out] at ho8 | (simp only [Int.reduceToNat] at ho8; rw [← Ny637.out] at ho8)); replace HO631 := ak (Kd.R_below (kr HO631.out) hb); replace HO634 := ak (Kd.R_below (kr HO634.out) hb); have HO639 := ak (Kd.R_lower ho8 (below_size (bl2 HB.out (IsS78.ge HI626.out) GE625.out))); replace BK625 := ak (blk_below (bk BK625.out) hb); replace HB := ak (below_step (bl2 HB.out (IsS78.ge HI626.out) GE625.out) hb); replace HI626 := ak (IsS78.below (is1 HI626.out NB626_625.out) hb); clear hb ho8; obtain ⟨Ao9, co9, eo9⟩ := Kd.R_slice HO639.out; subst eo9) | (refine gL 66 Try.func66 (some 12) #[.pointer (some ⟨gb626, 0, none⟩), .slice Ao9 y637.length co9] ?_; (with_reducible refine (spec_l1Cur_of.calls gb626 l0 t635 t636 _ _ y637 t640 t641 t642 w _ ?side1 ?side2 ?side3 ?side4 ?side5 A3.out).mono ?_); (case side1 => exact is1 HI626.out NB626_625.out); (case side2 => exact bl2 HB.out (IsS78.ge HI626.out) GE625.out); (case side3 => exact kc (Kd.R_reads' HO639.out).2.2); (case side4 => exact (Kd.R_reads' HO639.out).2.1); (case side5 => exact far_slice (IsS78.own_ne HI626.out HO639.out (by decide))); rintro e w10 ⟨rfl, hi, hb, hk⟩; refine ⟨_, rfl, ?_⟩; replace BK625 := ak (KeepBut.blk hk (g' := gb625) (o := .cells #[.int .i64 0, .int .i64 0, .slice none 0 0, .slice none 0 0] 28 (0, 0)) (bk BK625.out) NB625_626.out (by simp)); replace HO631 := ak (Kd.R_mono (Kd.R_keep (IsS78.apart (show IsS78 w _ gb626 l0 t635 t636 from is1 HI626.out NB626_625.out) (kr HO631.out) (by decide)) hk (fun _ h => h.2)) (fun _ h => h.1)); replace HO634 := ak (Kd.R_mono (Kd.R_keep (IsS78.apart (show IsS78 w _ gb626 l0 t635 t636 from is1 HI626.out NB626_625.out) (kr HO634.out) (by decide)) hk (fun _ h => h.2)) (fun _ h => h.1)); replace HO639 := ak (Kd.R_mono (Kd.R_keep (IsS78.apart (show IsS78 w _ gb626 l0 t635 t636 from is1 HI626.out NB626_625.out) (kr HO639.out) (by decide)) hk (fun _ h => h.2)) (fun _ h => h.1)); replace HB := ak hb; replace HI626 := ak hi; clear hb hk hi; have hnb11 := NB625_626.out; have hnc11 := NB626_625.out; obtain ⟨hcz12_0, hcz12_1, hcz12_2, hcz12_3, hfz12_0, hfz12_1, hfz12_2, hfz12_3⟩ := b4 BK625.out; obtain ⟨Ao13, co13, eo13⟩ := Kd.R_slice HO631.out; subst eo13; obtain ⟨Ao14, co14, eo14⟩ := Kd.R_slice HO634.out; subst eo14))
 refine bodyPost_ret (results_ct rfl _ _ gb625 28 #[.int .i64 t627, .int .i64 t628, .slice Ao13 t629.length co13, .slice Ao14 t632.length co14] (0, 0) _ rfl (bq BK625.out) Try.underlying28 rfl (by kernel_rfl)) rfl ?_
 exact ⟨_, _, by first | rfl | (simp [errW_none, errW_some] <;> rfl) | (simp [*, errW_none, errW_some] <;> rfl), by (with_reducible repeat (first | apply Kd.R_alloc | apply Kd.R_drewN | apply Kd.R_drew)); exact Kd.R_mono (Kd.R_far (p := ⟨gb625, 3, none⟩) (Kd.R_far (p := ⟨gb625, 2, none⟩) (Kd.R_far (p := ⟨gb625, 1, none⟩) (Kd.R_far (p := ⟨gb625, 0, none⟩) (Kd.R_types HO631.out BK625.out (by decide)) (fun _ hk => hk.2) (.int .i64 t627)) (fun _ hk => hk.2) (.int .i64 t628)) (fun _ hk => hk.2) (.slice Ao13 t629.length co13)) (fun _ hk => hk.2) (.slice Ao14 t632.length co14)) (fun _ hk => hk.1), by (with_reducible repeat (first | apply Kd.R_alloc | apply Kd.R_drewN | apply Kd.R_drew)); exact Kd.R_mono (Kd.R_far (p := ⟨gb625, 3, none⟩) (Kd.R_far (p := ⟨gb625, 2, none⟩) (Kd.R_far (p := ⟨gb625, 1, none⟩) (Kd.R_far (p := ⟨gb625, 0, none⟩) (Kd.R_types HO634.out BK625.out (by decide)) (fun _ hk => hk.2) (.int .i64 t627)) (fun _ hk => hk.2) (.int .i64 t628)) (fun _ hk => hk.2) (.slice Ao13 t629.length co13)) (fun _ hk => hk.2) (.slice Ao14 t632.length co14)) (fun _ hk => hk.1), bl2 HB.out (IsS78.ge HI626.out) GE625.out⟩

end Go.Proofs.Ytfopmaiednikhaa.PFnParts
