-- written by a program of this session (wip/tool)
import Derived.Test.YtfopmaiednikhaaPFnExactPutEntryx0
import Derived.Test.YtfopmaiednikhaaPFnExactPutEntryx6
import Derived.Test.YtfopmaiednikhaaPFnExactPutEntryx7
import Derived.Test.YtfopmaiednikhaaPFnExactPutEntryx8
import Derived.Test.YtfopmaiednikhaaPFnExactPutEntryx10
import Derived.Test.YtfopmaiednikhaaVOwn0
import Derived.Test.YtfopmaiednikhaaVOwnOpen
import Derived.WalkKit
import Derived.BigCall
import Derived.Lib.SliceRun
import Derived.Deep.RegionLaw
import Derived.Maps.OwnSet
import Derived.Maps.OwnOps
import Derived.Maps.Views
import Derived.Test.YtfopmaiednikhaaVWZeros
import Derived.Test.YtfopmaiednikhaaVWArr
import Derived.Test.YtfopmaiednikhaaVOwnShort
namespace Go.Proofs.Ytfopmaiednikhaa.PFnExactPutEntry
open Go.RowKit Go.Proofs.YtfopmaiednikhaaW.PrintWords Go.Proofs.YtfopmaiednikhaaW.PrintLast Go.Proofs.YtfopmaiednikhaaW.PrintMore Go.Shelf Go.Proofs.YtfopmaiednikhaaOwn
attribute [local go_sem] max2_int min2_int max_two min_two max_three min_three max_four min_four   -- for this text's walks alone
set_option linter.unusedVariables false
set_option linter.unusedSimpArgs false

/-! ### spec_PutEntry: function 25 -/
def spec_PutEntry.f (k : Nat) (a0_0 : Int) (a0_1 : Int) (l0_2 : List (S45)) (l0_3 : List (S45)) (a1_0 : ByteArray) (a1_1 : ByteArray) : Option (Int × Int × (List (S45)) × (List (S45)) × (List (S45)) × Bool) := (spec_GoodSegmented.f k a0_0 a0_1 l0_2 l0_3).bind fun t360 => (if t360 = true then ((spec_l12Entry.f a1_0 a1_1).bind fun t361 => (if t361 = true then ((spec_l12Own.f a0_0 a0_1 l0_2 l0_3).bind fun bt362 => ((spec_l12Put.f k bt362.1 bt362.2.1 bt362.2.2.1 bt362.2.2.2 a1_0 a1_1).bind fun bt370 => (some (bt370.1, bt370.2.1, bt370.2.2.1, bt370.2.2.2.1, bt370.2.2.2.2, true)))) else (some (0, 0, ([] : List (S45)), ([] : List (S45)), ([] : List (S45)), false)))) else (some (0, 0, ([] : List (S45)), ([] : List (S45)), ([] : List (S45)), false)))
theorem spec_PutEntry.mono : ∀ a0 a1 a2 a3 a4 a5 k, LeO (spec_PutEntry.f k a0 a1 a2 a3 a4 a5) (spec_PutEntry.f (k + 1) a0 a1 a2 a3 a4 a5) := by
 intro a0 a1 a2 a3 a4 a5 k
 unfold spec_PutEntry.f
 repeat' first
   | (with_reducible exact spec_GoodSegmented.mono _ _ _ _ _)
   | (with_reducible exact spec_l12Put.mono _ _ _ _ _ _ _)
   | (with_reducible exact LeO.refl _)
   | (with_reducible exact LeO.none _)
   | (with_reducible refine LeO.ite ?_ ?_)
   | (with_reducible refine LeO.bind ?_ (fun _ => ?_))
   | exact spec_GoodSegmented.mono _ _ _ _ _
   | exact spec_l12Put.mono _ _ _ _ _ _ _
   | exact LeO.none _
   | refine LeO.ite ?_ ?_
   | refine LeO.bind ?_ (fun _ => ?_)
def spec_PutEntry.T3 : Bool × List (List Nat × List Nat) := (true, [([], []), ([0], [0]), ([], []), ([1, 2, 1], [1, 2]), ([3], [3]), ([4], [4]), ([4], [4]), ([], []), ([7, 5, 3, 0, 1, 2, 3, 4, 5, 7], [5, 7]), ([6, 8, 0, 1, 2, 3, 4, 5, 6, 7, 8], [6])])
def spec_PutEntry.B3 : List Nat := [0, 1, 0, 7, 15, 31, 31, 0, 191, 511]
theorem spec_PutEntry.tab3 : rtab .any (opsOf Try.f25 3) = spec_PutEntry.T3 := by kernel_rfl
theorem spec_PutEntry.bits3 : waitsOk spec_PutEntry.T3.2 spec_PutEntry.B3 = true := by kernel_rfl
set_option maxHeartbeats 8000000 in
set_option maxRecDepth 100000 in
theorem spec_PutEntry.calls (k : Nat) (a0_0 : Int) (a0_1 : Int) (A0_2 : Option Addr) (c0_2 : Nat) (l0_2 : List (S45)) (A0_3 : Option Addr) (c0_3 : Nat) (l0_3 : List (S45)) (a1_0 : ByteArray) (a1_1 : ByteArray) (r1 : Int) (r2 : Int) (r3 : List (S45)) (r4 : List (S45)) (r5 : List (S45)) (r6 : Bool) (w : World) (hr0_2 : Kd.C k45 w A0_2 l0_2.length l0_2) (hc0_2 : l0_2.length ≤ c0_2) (hr0_3 : Kd.C k45 w A0_3 l0_3.length l0_3) (hc0_3 : l0_3.length ≤ c0_3) (h : spec_PutEntry.f k a0_0 a0_1 l0_2 l0_3 a1_0 a1_1 = some (r1, r2, r3, r4, r5, r6)) :
  Calls Try.prog 25 #[.agg #[.int .i64 a0_0, .int .i64 a0_1, .slice A0_2 l0_2.length c0_2, .slice A0_3 l0_3.length c0_3], .agg #[.string a1_0, .string a1_1]] w fun e w' => ∃ v2_ v3_ v4_ : Value, e = .returned (.tuple #[.agg #[.int .i64 r1, .int .i64 r2, v2_, v3_], v4_, .bool r6]) ∧ Kd.R k45 45 w' w.heap.size (fun k_ => some k_ ≠ (v3_ : Value).ownBlock ∧ some k_ ≠ (v4_ : Value).ownBlock) v2_ r3 ∧ Kd.R k45 45 w' w.heap.size (fun k_ => some k_ ≠ (v2_ : Value).ownBlock ∧ some k_ ≠ (v4_ : Value).ownBlock) v3_ r4 ∧ Kd.R k45 45 w' w.heap.size (fun k_ => some k_ ≠ (v2_ : Value).ownBlock ∧ some k_ ≠ (v3_ : Value).ownBlock) v4_ r5 ∧ Below w.heap.size w w' := by
 have hu28 := Try.underlying28
 have hu45 := Try.underlying45
 have HR0_2 := Aside0.mk hr0_2
 have HC0_2 := Aside0.mk hc0_2
 clear hr0_2 hc0_2
 have HR0_3 := Aside0.mk hr0_3
 have HC0_3 := Aside0.mk hc0_3
 clear hr0_3 hc0_3
 have HB := Aside0.mk (Below.refl w.heap.size w)
 have H : ((spec_GoodSegmented.f k a0_0 a0_1 l0_2 l0_3).bind fun t360 => (if t360 = true then ((spec_l12Entry.f a1_0 a1_1).bind fun t361 => (if t361 = true then ((spec_l12Own.f a0_0 a0_1 l0_2 l0_3).bind fun bt362 => ((spec_l12Put.f k bt362.1 bt362.2.1 bt362.2.2.1 bt362.2.2.2 a1_0 a1_1).bind fun bt370 => (some (bt370.1, bt370.2.1, bt370.2.2.1, bt370.2.2.2.1, bt370.2.2.2.2, true)))) else (some (0, 0, ([] : List (S45)), ([] : List (S45)), ([] : List (S45)), false)))) else (some (0, 0, ([] : List (S45)), ([] : List (S45)), ([] : List (S45)), false)))) = some (r1, r2, r3, r4, r5, r6) := h
 clear h
 replace H := Option.bind_eq_some_iff.mp H
 obtain ⟨t360, A30, H⟩ := H
 try dsimp only at H
 have A3 := Aside0.mk A30
 clear A30
 by_cases c4 : t360 = true
 ·subst c4
  have H1 : ((spec_l12Entry.f a1_0 a1_1).bind fun t361 => (if t361 = true then ((spec_l12Own.f a0_0 a0_1 l0_2 l0_3).bind fun bt362 => ((spec_l12Put.f k bt362.1 bt362.2.1 bt362.2.2.1 bt362.2.2.2 a1_0 a1_1).bind fun bt370 => (some (bt370.1, bt370.2.1, bt370.2.2.1, bt370.2.2.2.1, bt370.2.2.2.2, true)))) else (some (0, 0, ([] : List (S45)), ([] : List (S45)), ([] : List (S45)), false)))) = some (r1, r2, r3, r4, r5, r6) := by rw [if_pos rfl] at H; exact H
  clear H
  have H := H1
  clear H1
  replace H := Option.bind_eq_some_iff.mp H
  obtain ⟨t361, A50, H⟩ := H
  try dsimp only at H
  have A5 := Aside0.mk A50
  clear A50
  by_cases c6 : t361 = true
  ·subst c6
   have H1 : ((spec_l12Own.f a0_0 a0_1 l0_2 l0_3).bind fun bt362 => ((spec_l12Put.f k bt362.1 bt362.2.1 bt362.2.2.1 bt362.2.2.2 a1_0 a1_1).bind fun bt370 => (some (bt370.1, bt370.2.1, bt370.2.2.1, bt370.2.2.2.1, bt370.2.2.2.2, true)))) = some (r1, r2, r3, r4, r5, r6) := by rw [if_pos rfl] at H; exact H
   clear H
   have H := H1
   clear H1
   replace H := Option.bind_eq_some_iff.mp H
   obtain ⟨⟨t362, t363, t364, t367⟩, A70, H⟩ := H
   try dsimp only at H
   have A7 := Aside0.mk A70
   clear A70
   replace H := Option.bind_eq_some_iff.mp H
   obtain ⟨⟨t370, t371, t372, t375, t378⟩, A80, H⟩ := H
   try dsimp only at H
   have A8 := Aside0.mk A80
   clear A80
   simp only [Option.some.injEq, Prod.mk.injEq] at H
   obtain ⟨rfl, rfl, rfl, rfl, rfl, rfl⟩ := H
   go_enter Try.func25, Try.ntmps25
   try go_wp2_with (first | ((with_reducible refine gate_dst (N := 2) rfl ?_); refine box_event ?hg (N := 2) ?hd (cs := #[.int .i64 a0_0, .int .i64 a0_1, .slice A0_2 l0_2.length c0_2, .slice A0_3 l0_3.length c0_3]) (t := 28) ?hr ?_; (case hd => rfl); (case hg => rfl); (case hr => first | (go_simp; done) | (go_simp; rfl)); intro gb357 hg w9 hbox hb; have n0_ := Aside0.mk (below_step (bl HB.out) hb); have n1_ := Aside0.mk (hbox); have n2_ := Aside0.mk ((by rw [hg]; exact (below_size (bl HB.out)) : w.heap.size ≤ gb357)); have n3_ := Aside0.mk ((by rw [hg]; exact (below_size (bl HB.out)) : w.heap.size ≤ gb357)); clear HB; have HB := n0_; have BK357 := n1_; have GW357 := n2_; have GE357 := n3_; clear n0_ n1_ n2_ n3_; clear hb hbox hg) | ((with_reducible refine gate_dst (N := 3) rfl ?_); refine box_event ?hg (N := 3) ?hd (cs := #[.string a1_0, .string a1_1]) (t := 45) ?hr ?_; (case hd => rfl); (case hg => rfl); (case hr => first | (go_simp; done) | (go_simp; rfl)); intro gb358 hg w10 hbox hb; have n0_ := Aside0.mk (blk_below (bk BK357.out) hb); have n1_ := Aside0.mk (below_step (bl1 HB.out GE357.out) hb); have n2_ := Aside0.mk (hbox); have n3_ := Aside0.mk ((by rw [hg]; exact (below_size (bl1 HB.out GE357.out)) : w.heap.size ≤ gb358)); have n4_ := Aside0.mk ((by rw [hg]; exact (below_size (bl1 HB.out GE357.out)) : w.heap.size ≤ gb358)); have n5_ := Aside0.mk ((by rw [hg]; exact Nat.ne_of_lt (blk_lt (bk BK357.out)) : gb357 ≠ gb358)); have n6_ := Aside0.mk ((by rw [hg]; exact Nat.ne_of_gt (blk_lt (bk BK357.out)) : gb358 ≠ gb357)); clear BK357; clear HB; have BK357 := n0_; have HB := n1_; have BK358 := n2_; have GW358 := n3_; have GE358 := n4_; have NB357_358 := n5_; have NB358_357 := n6_; clear n0_ n1_ n2_ n3_ n4_ n5_ n6_; clear hb hbox hg) | ((with_reducible refine gate_dst (N := 4) rfl ?_); refine box_event ?hg (N := 4) ?hd (cs := #[.int .i64 0, .int .i64 0, .slice none 0 0, .slice none 0 0]) (t := 28) ?hr ?_; (case hd => rfl); (case hg => rfl); (case hr => first | (go_simp; done) | (go_simp; rfl)); intro gb359 hg w11 hbox hb; have n0_ := Aside0.mk (blk_below (bk BK357.out) hb); have n1_ := Aside0.mk (blk_below (bk BK358.out) hb); have n2_ := Aside0.mk (below_step (bl2 HB.out GE357.out GE358.out) hb); have n3_ := Aside0.mk (hbox); have n4_ := Aside0.mk ((by rw [hg]; exact (below_size (bl2 HB.out GE357.out GE358.out)) : w.heap.size ≤ gb359)); have n5_ := Aside0.mk ((by rw [hg]; exact (below_size (bl2 HB.out GE357.out GE358.out)) : w.heap.size ≤ gb359)); have n6_ := Aside0.mk ((by rw [hg]; exact Nat.ne_of_lt (blk_lt (bk BK357.out)) : gb357 ≠ gb359)); have n7_ := Aside0.mk ((by rw [hg]; exact Nat.ne_of_gt (blk_lt (bk BK357.out)) : gb359 ≠ gb357)); have n8_ := Aside0.mk ((by rw [hg]; exact Nat.ne_of_lt (blk_lt (bk BK358.out)) : gb358 ≠ gb359)); have n9_ := Aside0.mk ((by rw [hg]; exact Nat.ne_of_gt (blk_lt (bk BK358.out)) : gb359 ≠ gb358)); clear BK357; clear BK358; clear HB; have BK357 := n0_; have BK358 := n1_; have HB := n2_; have BK359 := n3_; have GW359 := n4_; have GE359 := n5_; have NB357_359 := n6_; have NB359_357 := n7_; have NB358_359 := n8_; have NB359_358 := n9_; clear n0_ n1_ n2_ n3_ n4_ n5_ n6_ n7_ n8_ n9_; clear hb hbox hg; have hnb12 := NB357_358.out; have hnc12 := NB358_357.out; have hnb13 := NB357_359.out; have hnc13 := NB359_357.out; have hcz14_0 : w11.cell? ⟨gb357, 0, none⟩ = some (.int .i64 a0_0) := (blk_cell BK357.out 0).trans rfl; have hcz14_1 : w11.cell? ⟨gb357, 1, none⟩ = some (.int .i64 a0_1) := (blk_cell BK357.out 1).trans rfl; have hcz14_2 : w11.cell? ⟨gb357, 2, none⟩ = some (.slice A0_2 l0_2.length c0_2) := (blk_cell BK357.out 2).trans rfl; have hcz14_3 : w11.cell? ⟨gb357, 3, none⟩ = some (.slice A0_3 l0_3.length c0_3) := (blk_cell BK357.out 3).trans rfl; have hfz14_0 := blk_frozen BK357.out 0; have hfz14_1 := blk_frozen BK357.out 1; have hfz14_2 := blk_frozen BK357.out 2; have hfz14_3 := blk_frozen BK357.out 3) | ((with_reducible refine gate_callee (f := 41) rfl ?_); refine goesL_ (some 10) rfl rfl Try.func41 (by kernel_rfl) rfl #[.agg #[.int .i64 a0_0, .int .i64 a0_1, .slice A0_2 l0_2.length c0_2, .slice A0_3 l0_3.length c0_3]] rfl (by (try simp only [List.map_toArray, List.map_cons, List.map_nil]); first | done | rfl | (simp only [List.length_drop, List.length_take]; rfl)) ?_; (with_reducible refine (spec_GoodSegmented.calls k a0_0 a0_1 _ _ l0_2 _ _ l0_3 true _ ?side1 ?side2 ?side3 ?side4 A3.out).mono ?_); (case side1 => exact kc (Kd.C_below HR0_2.out HB.out)); (case side2 => exact HC0_2.out); (case side3 => exact kc (Kd.C_below HR0_3.out HB.out)); (case side4 => exact HC0_3.out); rintro e w15 ⟨rfl, hb⟩; refine ⟨_, rfl, ?_⟩; have n0_ := Aside0.mk (blk_below (bk BK357.out) hb); have n1_ := Aside0.mk (blk_below (bk BK358.out) hb); have n2_ := Aside0.mk (blk_below (bk BK359.out) hb); have n3_ := Aside0.mk (below_step (bl3 HB.out GE357.out GE358.out GE359.out) hb); clear BK357; clear BK358; clear BK359; clear HB; have BK357 := n0_; have BK358 := n1_; have BK359 := n2_; have HB := n3_; clear n0_ n1_ n2_ n3_; (try clear hb); (try clear hb2); (try clear hk); (try clear hi); have hnb16 := NB358_359.out; have hnc16 := NB359_358.out; have hcz17_0 : w15.cell? ⟨gb358, 0, none⟩ = some (.string a1_0) := (blk_cell BK358.out 0).trans rfl; have hcz17_1 : w15.cell? ⟨gb358, 1, none⟩ = some (.string a1_1) := (blk_cell BK358.out 1).trans rfl; have hfz17_0 := blk_frozen BK358.out 0; have hfz17_1 := blk_frozen BK358.out 1) | (go_at_call 55; (with_reducible refine (spec_l12Entry.calls a1_0 a1_1 true _ A5.out).mono ?_); rintro e w18 ⟨rfl, hb⟩; have n0_ := Aside0.mk (blk_below (bk BK357.out) hb); have n1_ := Aside0.mk (blk_below (bk BK358.out) hb); have n2_ := Aside0.mk (blk_below (bk BK359.out) hb); have n3_ := Aside0.mk (below_step (bl3 HB.out GE357.out GE358.out GE359.out) hb); clear BK357; clear BK358; clear BK359; clear HB; have BK357 := n0_; have BK358 := n1_; have BK359 := n2_; have HB := n3_; clear n0_ n1_ n2_ n3_; (try clear hb); (try clear hb2); (try clear hk); (try clear hi)))
   have n0_ := Aside0.mk (blk_drew BK357.out)
   have n1_ := Aside0.mk (blk_drew BK358.out)
   have n2_ := Aside0.mk (blk_drew BK359.out)
   have n3_ := Aside0.mk (below_drew1 HB.out)
   clear BK357
   clear BK358
   clear BK359
   clear HB
   have BK357 := n0_
   have BK358 := n1_
   have BK359 := n2_
   have HB := n3_
   clear n0_ n1_ n2_ n3_
   refine start_ (n := 10) (S := fun w' => w'.cell? ⟨gb357, 0, none⟩ = some (.int .i64 a0_0) ∧ w'.cell? ⟨gb357, 1, none⟩ = some (.int .i64 a0_1) ∧ w'.cell? ⟨gb357, 2, none⟩ = some (.slice A0_2 l0_2.length c0_2) ∧ w'.cell? ⟨gb357, 3, none⟩ = some (.slice A0_3 l0_3.length c0_3) ∧ w'.cell? ⟨gb358, 0, none⟩ = some (.string a1_0) ∧ w'.cell? ⟨gb358, 1, none⟩ = some (.string a1_1)) (ds := []) #[false, false, false, false, false, false, false, false, false, false] (by kernel_rfl) rfl rfl ⟨(blk_cell BK357.out 0).trans rfl, (blk_cell BK357.out 1).trans rfl, (blk_cell BK357.out 2).trans rfl, (blk_cell BK357.out 3).trans rfl, (blk_cell BK358.out 0).trans rfl, (blk_cell BK358.out 1).trans rfl⟩ (fun hHeld => ?_); refine with_tabW spec_PutEntry.tab3 spec_PutEntry.bits3 (fun HT_ HW_ => ?_)
   generalize w18.drew = w19 at BK357 BK358 BK359 HB hHeld ⊢
   refine take_ (i := 0) (N := some 19) (v := ?_) (a' := ?_) #[true, false, false, false, false, false, false, false, false, false] rfl rfl (take_ofW HT_.out HW_.out (by kernel_rfl)) (fun _ _ _ h => h) (Or.inl ⟨by rfl, ?_⟩) hHeld ?_ ?_
   rotate_left
   ·rintro w' ⟨s0, s1, s2, s3, s4, s5⟩
    go_simp
    with_reducible rfl
   rotate_left
   ·simp only [Act.put, List.setIfInBounds_toArray, List.set_cons_zero, List.set_cons_succ, i64_w, i32_w]
    rfl
   refine take_ (i := 2) (N := some 21) (v := ?_) (a' := ?_) #[true, false, true, false, false, false, false, false, false, false] rfl rfl (take_ofW HT_.out HW_.out (by kernel_rfl)) (fun _ _ _ h => h) (Or.inl ⟨by rfl, ?_⟩) hHeld ?_ ?_
   rotate_left
   ·rintro w' ⟨s0, s1, s2, s3, s4, s5⟩
    go_simp
    with_reducible rfl
   rotate_left
   ·simp only [Act.put, List.setIfInBounds_toArray, List.set_cons_zero, List.set_cons_succ, i64_w, i32_w]
    rfl
   refine join_ (σ := Value × Value × Value × Value × Value × Nat) 2 #[true, true, true, true, true, true, true, true, false, false] (fun s_ => [(20, .agg #[.int .i64 t362, .int .i64 t363, s_.1, s_.2.1]), (22, .tuple #[.agg #[.int .i64 t370, .int .i64 t371, s_.2.2.1, s_.2.2.2.1], s_.2.2.2.2.1]), (7, .pointer (some ⟨s_.2.2.2.2.2, 0, none⟩)), (18, .tuple #[.agg #[.int .i64 t370, .int .i64 t371, s_.2.2.1, s_.2.2.2.1], s_.2.2.2.2.1]), (23, .agg #[.int .i64 t370, .int .i64 t371, s_.2.2.1, s_.2.2.2.1]), (24, s_.2.2.2.2.1)]) (fun s_ w' => (w'.cell? ⟨gb357, 0, none⟩ = some (.int .i64 a0_0) ∧ w'.cell? ⟨gb357, 1, none⟩ = some (.int .i64 a0_1) ∧ w'.cell? ⟨gb357, 2, none⟩ = some (.slice A0_2 l0_2.length c0_2) ∧ w'.cell? ⟨gb357, 3, none⟩ = some (.slice A0_3 l0_3.length c0_3) ∧ w'.cell? ⟨gb358, 0, none⟩ = some (.string a1_0) ∧ w'.cell? ⟨gb358, 1, none⟩ = some (.string a1_1)) ∧ (Kd.R k45 45 w' w.heap.size (fun k_ => some k_ ≠ (s_.2.1 : Value).ownBlock ∧ some k_ ≠ (s_.2.2.1 : Value).ownBlock ∧ some k_ ≠ (s_.2.2.2.1 : Value).ownBlock ∧ some k_ ≠ (s_.2.2.2.2.1 : Value).ownBlock ∧ k_ ≠ gb358) s_.1 t364) ∧ (Kd.R k45 45 w' w.heap.size (fun k_ => some k_ ≠ (s_.1 : Value).ownBlock ∧ some k_ ≠ (s_.2.2.1 : Value).ownBlock ∧ some k_ ≠ (s_.2.2.2.1 : Value).ownBlock ∧ some k_ ≠ (s_.2.2.2.2.1 : Value).ownBlock ∧ k_ ≠ gb358) s_.2.1 t367) ∧ (Kd.R k45 45 w' w.heap.size (fun k_ => some k_ ≠ (s_.1 : Value).ownBlock ∧ some k_ ≠ (s_.2.1 : Value).ownBlock ∧ some k_ ≠ (s_.2.2.2.1 : Value).ownBlock ∧ some k_ ≠ (s_.2.2.2.2.1 : Value).ownBlock ∧ k_ ≠ gb358) s_.2.2.1 t372) ∧ (Kd.R k45 45 w' w.heap.size (fun k_ => some k_ ≠ (s_.1 : Value).ownBlock ∧ some k_ ≠ (s_.2.1 : Value).ownBlock ∧ some k_ ≠ (s_.2.2.1 : Value).ownBlock ∧ some k_ ≠ (s_.2.2.2.2.1 : Value).ownBlock ∧ k_ ≠ gb358) s_.2.2.2.1 t375) ∧ (Kd.R k45 45 w' w.heap.size (fun k_ => some k_ ≠ (s_.1 : Value).ownBlock ∧ some k_ ≠ (s_.2.1 : Value).ownBlock ∧ some k_ ≠ (s_.2.2.1 : Value).ownBlock ∧ some k_ ≠ (s_.2.2.2.1 : Value).ownBlock ∧ k_ ≠ gb358) s_.2.2.2.2.1 t378) ∧ (w'.heap[gb357]? = some (.cells #[.int .i64 a0_0, .int .i64 a0_1, .slice A0_2 l0_2.length c0_2, .slice A0_3 l0_3.length c0_3] 28 (0, 0))) ∧ (w'.heap[gb358]? = some (.cells #[.string a1_0, .string a1_1] 45 (0, 0))) ∧ (w'.heap[gb359]? = some (.cells #[.int .i64 0, .int .i64 0, .slice none 0 0, .slice none 0 0] 28 (0, 0))) ∧ (w'.heap[s_.2.2.2.2.2]? = some (.cells #[.int .i64 0, .int .i64 0, .slice none 0 0, .slice none 0 0] 28 (0, 0))) ∧ (w.heap.size ≤ s_.2.2.2.2.2) ∧ (w.heap.size ≤ s_.2.2.2.2.2) ∧ (gb357 ≠ s_.2.2.2.2.2) ∧ (s_.2.2.2.2.2 ≠ gb357) ∧ (gb358 ≠ s_.2.2.2.2.2) ∧ (s_.2.2.2.2.2 ≠ gb358) ∧ (gb359 ≠ s_.2.2.2.2.2) ∧ (s_.2.2.2.2.2 ≠ gb359) ∧ (Below w.heap.size w w')) ?_ ?_
   rotate_left
   ·intro hCont
    refine two_ (i := 1) (j := 7) (Ni := some 20) (Nj := some 7) #[true, true, true, false, false, false, false, false, false, false] #[true, false, true, false, false, false, false, true, false, false] rfl rfl rfl rfl (two_of HT_.out (by kernel_rfl)) (by decide) (by decide) (fun K hK => ?_) (fun K hK => ?_)
    ·skip
     refine goes_ Try.func42 (by kernel_rfl) rfl #[.agg #[.int .i64 a0_0, .int .i64 a0_1, .slice A0_2 l0_2.length c0_2, .slice A0_3 l0_3.length c0_3]] (by rfl) rfl rfl (by (try simp only [List.map_toArray, List.map_cons, List.map_nil]); first | done | rfl | (simp only [List.length_drop, List.length_take]; rfl)) ?_
     with_reducible refine (spec_l12Own.calls a0_0 a0_1 _ _ l0_2 _ _ l0_3 t362 t363 t364 t367 _ ?side1 ?side2 ?side3 ?side4 A7.out).mono ?_
     (case side1 => exact kc (Kd.C_below HR0_2.out HB.out))
     (case side2 => exact HC0_2.out)
     (case side3 => exact kc (Kd.C_below HR0_3.out HB.out))
     (case side4 => exact HC0_3.out)
     rintro e w20 ⟨v365, v368, rfl, ho0, ho1, hb⟩
     refine ⟨_, rfl, ?_⟩
     have n0_ := Aside0.mk (Kd.R_lower (Kd.R_newB ho0 (bk BK358.out)) (below_size (bl3 HB.out GE357.out GE358.out GE359.out)))
     have n1_ := Aside0.mk (Kd.R_lower (Kd.R_newB ho1 (bk BK358.out)) (below_size (bl3 HB.out GE357.out GE358.out GE359.out)))
     have n2_ := Aside0.mk (blk_below (bk BK357.out) hb)
     have n3_ := Aside0.mk (blk_below (bk BK358.out) hb)
     have n4_ := Aside0.mk (blk_below (bk BK359.out) hb)
     have n5_ := Aside0.mk (below_step (bl3 HB.out GE357.out GE358.out GE359.out) hb)
     clear BK357
     clear BK358
     clear BK359
     clear HB
     have HO366 := n0_
     have HO369 := n1_
     have BK357 := n2_
     have BK358 := n3_
     have BK359 := n4_
     have HB := n5_
     clear n0_ n1_ n2_ n3_ n4_ n5_
     (try clear hb)
     (try clear hb2)
     (try clear hk)
     (try clear hi)
     (try clear ho0)
     (try clear ho1)
     obtain ⟨Ao21, co21, eo21⟩ := Kd.R_slice HO366.out
     (first | subst eo21 | (injection eo21 with f1_ f2_ f3_; have f4_ := f1_.symm; have f5_ := f3_.symm; clear f1_ f2_ f3_; subst f4_; subst f5_))
     obtain ⟨Ao22, co22, eo22⟩ := Kd.R_slice HO369.out
     (first | subst eo22 | (injection eo22 with f1_ f2_ f3_; have f4_ := f1_.symm; have f5_ := f3_.symm; clear f1_ f2_ f3_; subst f4_; subst f5_))
     refine hK.out _ _ ⟨(blk_cell BK357.out 0).trans rfl, (blk_cell BK357.out 1).trans rfl, (blk_cell BK357.out 2).trans rfl, (blk_cell BK357.out 3).trans rfl, (blk_cell BK358.out 0).trans rfl, (blk_cell BK358.out 1).trans rfl⟩ (fun hHeld => ?_)
     clear hK K
     refine norm_ (a' := ?_) ?_ ?_
     rotate_left
     ·show Act.put _ (some 20) _ = _
      simp only [Act.put, List.setIfInBounds_toArray, List.set_cons_zero, List.set_cons_succ, i64_w, i32_w]
      rfl
     refine two_ (i := 3) (j := 7) (Ni := some 22) (Nj := some 7) #[true, true, true, true, false, false, false, false, false, false] #[true, true, true, false, false, false, false, true, false, false] rfl rfl rfl rfl (two_of HT_.out (by kernel_rfl)) (by decide) (by decide) (fun K hK => ?_) (fun K hK => ?_)
     ·skip
      refine goes_ Try.func56 (by kernel_rfl) rfl #[.agg #[.int .i64 t362, .int .i64 t363, .slice Ao21 t364.length co21, .slice Ao22 t367.length co22], .agg #[.string a1_0, .string a1_1]] (by rfl) rfl rfl (by (try simp only [List.map_toArray, List.map_cons, List.map_nil]); first | done | rfl | (simp only [List.length_drop, List.length_take]; rfl)) ?_
      with_reducible refine (spec_l12Put.calls k t362 t363 _ _ t364 _ _ t367 a1_0 a1_1 t370 t371 t372 t375 t378 _ ?side1 ?side2 ?side3 ?side4 A8.out).mono ?_
      (case side1 => exact kc (Kd.R_reads' HO366.out).2.2)
      (case side2 => exact (Kd.R_reads' HO366.out).2.1)
      (case side3 => exact kc (Kd.R_reads' HO369.out).2.2)
      (case side4 => exact (Kd.R_reads' HO369.out).2.1)
      rintro e w23 ⟨v373, v376, v379, rfl, ho0, ho1, ho2, hb⟩
      refine ⟨_, rfl, ?_⟩
      have n0_ := Aside0.mk (Kd.R_mono (Kd.R_told (Kd.R_told (Kd.R_told (Kd.R_old (kr HO366.out) hb) (Kd.R_base ho0)) (Kd.R_base ho1)) (Kd.R_base ho2)) (fun _ h_ => h_.1))
      have n1_ := Aside0.mk (Kd.R_mono (Kd.R_told (Kd.R_told (Kd.R_told (Kd.R_old (kr HO369.out) hb) (Kd.R_base ho0)) (Kd.R_base ho1)) (Kd.R_base ho2)) (fun _ h_ => h_.1))
      have n2_ := Aside0.mk (Kd.R_lower (Kd.R_newB (Kd.R_new' (Kd.R_new' ho0 (Kd.R_lt (kr HO366.out))) (Kd.R_lt (kr HO369.out))) (bk BK358.out)) (below_size (bl3 HB.out GE357.out GE358.out GE359.out)))
      have n3_ := Aside0.mk (Kd.R_lower (Kd.R_newB (Kd.R_new' (Kd.R_new' ho1 (Kd.R_lt (kr HO366.out))) (Kd.R_lt (kr HO369.out))) (bk BK358.out)) (below_size (bl3 HB.out GE357.out GE358.out GE359.out)))
      have n4_ := Aside0.mk (Kd.R_lower (Kd.R_newB (Kd.R_new' (Kd.R_new' ho2 (Kd.R_lt (kr HO366.out))) (Kd.R_lt (kr HO369.out))) (bk BK358.out)) (below_size (bl3 HB.out GE357.out GE358.out GE359.out)))
      have n5_ := Aside0.mk (blk_below (bk BK357.out) hb)
      have n6_ := Aside0.mk (blk_below (bk BK358.out) hb)
      have n7_ := Aside0.mk (blk_below (bk BK359.out) hb)
      have n8_ := Aside0.mk (below_step (bl3 HB.out GE357.out GE358.out GE359.out) hb)
      clear HO366
      clear HO369
      clear BK357
      clear BK358
      clear BK359
      clear HB
      have HO366 := n0_
      have HO369 := n1_
      have HO374 := n2_
      have HO377 := n3_
      have HO380 := n4_
      have BK357 := n5_
      have BK358 := n6_
      have BK359 := n7_
      have HB := n8_
      clear n0_ n1_ n2_ n3_ n4_ n5_ n6_ n7_ n8_
      (try clear hb)
      (try clear hb2)
      (try clear hk)
      (try clear hi)
      (try clear ho0)
      (try clear ho1)
      (try clear ho2)
      refine hK.out _ _ ⟨(blk_cell BK357.out 0).trans rfl, (blk_cell BK357.out 1).trans rfl, (blk_cell BK357.out 2).trans rfl, (blk_cell BK357.out 3).trans rfl, (blk_cell BK358.out 0).trans rfl, (blk_cell BK358.out 1).trans rfl⟩ (fun hHeld => ?_)
      clear hK K
      refine norm_ (a' := ?_) ?_ ?_
      rotate_left
      ·show Act.put _ (some 22) _ = _
       simp only [Act.put, List.setIfInBounds_toArray, List.set_cons_zero, List.set_cons_succ, i64_w, i32_w]
       rfl
      refine pure_ (i := 4) (N := some 18) (v := ?_) (a' := ?_) #[true, true, true, true, true, false, false, false, false, false] rfl rfl (any_of HT_.out (by kernel_rfl)) (fun _ _ _ h => h) (Or.inl ⟨by rfl, ?_⟩) ?_ ?_
      rotate_left
      ·intro w'
       go_simp
       with_reducible rfl
      rotate_left
      ·simp only [Act.put, List.setIfInBounds_toArray, List.set_cons_zero, List.set_cons_succ, i64_w, i32_w]
       rfl
      refine pure_ (i := 5) (N := some 23) (v := ?_) (a' := ?_) #[true, true, true, true, true, true, false, false, false, false] rfl rfl (any_of HT_.out (by kernel_rfl)) (fun _ _ _ h => h) (Or.inl ⟨by rfl, ?_⟩) ?_ ?_
      rotate_left
      ·intro w'
       go_simp
       with_reducible rfl
      rotate_left
      ·simp only [Act.put, List.setIfInBounds_toArray, List.set_cons_zero, List.set_cons_succ, i64_w, i32_w]
       rfl
      refine pure_ (i := 6) (N := some 24) (v := ?_) (a' := ?_) #[true, true, true, true, true, true, true, false, false, false] rfl rfl (any_of HT_.out (by kernel_rfl)) (fun _ _ _ h => h) (Or.inl ⟨by rfl, ?_⟩) ?_ ?_
      rotate_left
      ·intro w'
       go_simp
       with_reducible rfl
      rotate_left
      ·simp only [Act.put, List.setIfInBounds_toArray, List.set_cons_zero, List.set_cons_succ, i64_w, i32_w]
       rfl
      refine one_ (i := 7) (N := some 7) #[true, true, true, true, true, true, true, true, false, false] rfl rfl (one_of HT_.out (by kernel_rfl)) (by decide) (fun K hK => ?_)
      refine box_step ?hg (N := 7) ?hd (cs := #[.int .i64 0, .int .i64 0, .slice none 0 0, .slice none 0 0]) (t := 28) ?hr ?_; (case hd => rfl); (case hg => rfl); (case hr => first | (go_simp; done) | (go_simp; rfl))
      intro gb381 hg w24 hbox hb
      have n0_ := Aside0.mk (Kd.R_below (kr HO366.out) hb)
      have n1_ := Aside0.mk (Kd.R_below (kr HO369.out) hb)
      have n2_ := Aside0.mk (Kd.R_below (kr HO374.out) hb)
      have n3_ := Aside0.mk (Kd.R_below (kr HO377.out) hb)
      have n4_ := Aside0.mk (Kd.R_below (kr HO380.out) hb)
      have n5_ := Aside0.mk (blk_below (bk BK357.out) hb)
      have n6_ := Aside0.mk (blk_below (bk BK358.out) hb)
      have n7_ := Aside0.mk (blk_below (bk BK359.out) hb)
      have n8_ := Aside0.mk (below_step (bl3 HB.out GE357.out GE358.out GE359.out) hb)
      have n9_ := Aside0.mk (hbox)
      have n10_ := Aside0.mk ((by rw [hg]; exact (below_size (bl3 HB.out GE357.out GE358.out GE359.out)) : w.heap.size ≤ gb381))
      have n11_ := Aside0.mk ((by rw [hg]; exact (below_size (bl3 HB.out GE357.out GE358.out GE359.out)) : w.heap.size ≤ gb381))
      have n12_ := Aside0.mk ((by rw [hg]; exact Nat.ne_of_lt (blk_lt (bk BK357.out)) : gb357 ≠ gb381))
      have n13_ := Aside0.mk ((by rw [hg]; exact Nat.ne_of_gt (blk_lt (bk BK357.out)) : gb381 ≠ gb357))
      have n14_ := Aside0.mk ((by rw [hg]; exact Nat.ne_of_lt (blk_lt (bk BK358.out)) : gb358 ≠ gb381))
      have n15_ := Aside0.mk ((by rw [hg]; exact Nat.ne_of_gt (blk_lt (bk BK358.out)) : gb381 ≠ gb358))
      have n16_ := Aside0.mk ((by rw [hg]; exact Nat.ne_of_lt (blk_lt (bk BK359.out)) : gb359 ≠ gb381))
      have n17_ := Aside0.mk ((by rw [hg]; exact Nat.ne_of_gt (blk_lt (bk BK359.out)) : gb381 ≠ gb359))
      clear HO366
      clear HO369
      clear HO374
      clear HO377
      clear HO380
      clear BK357
      clear BK358
      clear BK359
      clear HB
      have HO366 := n0_
      have HO369 := n1_
      have HO374 := n2_
      have HO377 := n3_
      have HO380 := n4_
      have BK357 := n5_
      have BK358 := n6_
      have BK359 := n7_
      have HB := n8_
      have BK381 := n9_
      have GW381 := n10_
      have GE381 := n11_
      have NB357_381 := n12_
      have NB381_357 := n13_
      have NB358_381 := n14_
      have NB381_358 := n15_
      have NB359_381 := n16_
      have NB381_359 := n17_
      clear n0_ n1_ n2_ n3_ n4_ n5_ n6_ n7_ n8_ n9_ n10_ n11_ n12_ n13_ n14_ n15_ n16_ n17_
      clear hb hbox hg
      refine hK.out _ _ ⟨(blk_cell BK357.out 0).trans rfl, (blk_cell BK357.out 1).trans rfl, (blk_cell BK357.out 2).trans rfl, (blk_cell BK357.out 3).trans rfl, (blk_cell BK358.out 0).trans rfl, (blk_cell BK358.out 1).trans rfl⟩ (fun hHeld => ?_)
      clear hK K
      refine norm_ (a' := ?_) ?_ ?_
      rotate_left
      ·show Act.put _ (some 7) _ = _
       simp only [Act.put, List.setIfInBounds_toArray, List.set_cons_zero, List.set_cons_succ, i64_w, i32_w]
       rfl
      exact norm_ (by simp only [putAll, Act.put, List.setIfInBounds_toArray, List.set_cons_zero, List.set_cons_succ]) (hCont (.slice Ao21 t364.length co21, .slice Ao22 t367.length co22, v373, v376, v379, gb381) _ ⟨hHeld, (by (with_reducible repeat (first | apply Kd.R_alloc | apply Kd.R_drewN | apply Kd.R_drew)); exact Kd.R_mono HO366.out (fun _ hk => ⟨hk.1.1.1.1, ⟨hk.1.1.2, ⟨hk.1.2, ⟨hk.2, hk.1.1.1.2⟩⟩⟩⟩)), (by (with_reducible repeat (first | apply Kd.R_alloc | apply Kd.R_drewN | apply Kd.R_drew)); exact Kd.R_mono HO369.out (fun _ hk => ⟨hk.1.1.1.1, ⟨hk.1.1.2, ⟨hk.1.2, ⟨hk.2, hk.1.1.1.2⟩⟩⟩⟩)), (by (with_reducible repeat (first | apply Kd.R_alloc | apply Kd.R_drewN | apply Kd.R_drew)); exact Kd.R_mono HO374.out (fun _ hk => ⟨hk.1.1.2, ⟨hk.1.2, ⟨hk.1.1.1.1, ⟨hk.1.1.1.2, hk.2⟩⟩⟩⟩)), (by (with_reducible repeat (first | apply Kd.R_alloc | apply Kd.R_drewN | apply Kd.R_drew)); exact Kd.R_mono HO377.out (fun _ hk => ⟨hk.1.1.2, ⟨hk.1.2, ⟨hk.1.1.1.1, ⟨hk.1.1.1.2, hk.2⟩⟩⟩⟩)), (by (with_reducible repeat (first | apply Kd.R_alloc | apply Kd.R_drewN | apply Kd.R_drew)); exact Kd.R_mono HO380.out (fun _ hk => ⟨hk.1.1.2, ⟨hk.1.2, ⟨hk.1.1.1.1, ⟨hk.1.1.1.2, hk.2⟩⟩⟩⟩)), (bk BK357.out), (bk BK358.out), (bk BK359.out), (bk BK381.out), GW381.out, GE381.out, NB357_381.out, NB381_357.out, NB358_381.out, NB381_358.out, NB359_381.out, NB381_359.out, (bl4 HB.out GE357.out GE358.out GE359.out GE381.out)⟩)
     ·skip
      refine box_step ?hg (N := 7) ?hd (cs := #[.int .i64 0, .int .i64 0, .slice none 0 0, .slice none 0 0]) (t := 28) ?hr ?_; (case hd => rfl); (case hg => rfl); (case hr => first | (go_simp; done) | (go_simp; rfl))
      intro gb381 hg w21 hbox hb
      have n0_ := Aside0.mk (Kd.R_below (kr HO366.out) hb)
      have n1_ := Aside0.mk (Kd.R_below (kr HO369.out) hb)
      have n2_ := Aside0.mk (blk_below (bk BK357.out) hb)
      have n3_ := Aside0.mk (blk_below (bk BK358.out) hb)
      have n4_ := Aside0.mk (blk_below (bk BK359.out) hb)
      have n5_ := Aside0.mk (below_step (bl3 HB.out GE357.out GE358.out GE359.out) hb)
      have n6_ := Aside0.mk (hbox)
      have n7_ := Aside0.mk ((by rw [hg]; exact (below_size (bl3 HB.out GE357.out GE358.out GE359.out)) : w.heap.size ≤ gb381))
      have n8_ := Aside0.mk ((by rw [hg]; exact (below_size (bl3 HB.out GE357.out GE358.out GE359.out)) : w.heap.size ≤ gb381))
      have n9_ := Aside0.mk ((by rw [hg]; exact Nat.ne_of_lt (blk_lt (bk BK357.out)) : gb357 ≠ gb381))
      have n10_ := Aside0.mk ((by rw [hg]; exact Nat.ne_of_gt (blk_lt (bk BK357.out)) : gb381 ≠ gb357))
      have n11_ := Aside0.mk ((by rw [hg]; exact Nat.ne_of_lt (blk_lt (bk BK358.out)) : gb358 ≠ gb381))
      have n12_ := Aside0.mk ((by rw [hg]; exact Nat.ne_of_gt (blk_lt (bk BK358.out)) : gb381 ≠ gb358))
      have n13_ := Aside0.mk ((by rw [hg]; exact Nat.ne_of_lt (blk_lt (bk BK359.out)) : gb359 ≠ gb381))
      have n14_ := Aside0.mk ((by rw [hg]; exact Nat.ne_of_gt (blk_lt (bk BK359.out)) : gb381 ≠ gb359))
      clear HO366
      clear HO369
      clear BK357
      clear BK358
      clear BK359
      clear HB
      have HO366 := n0_
      have HO369 := n1_
      have BK357 := n2_
      have BK358 := n3_
      have BK359 := n4_
      have HB := n5_
      have BK381 := n6_
      have GW381 := n7_
      have GE381 := n8_
      have NB357_381 := n9_
      have NB381_357 := n10_
      have NB358_381 := n11_
      have NB381_358 := n12_
      have NB359_381 := n13_
      have NB381_359 := n14_
      clear n0_ n1_ n2_ n3_ n4_ n5_ n6_ n7_ n8_ n9_ n10_ n11_ n12_ n13_ n14_
      clear hb hbox hg
      obtain ⟨Ao22, co22, eo22⟩ := Kd.R_slice HO366.out
      (first | subst eo22 | (injection eo22 with f1_ f2_ f3_; have f4_ := f1_.symm; have f5_ := f3_.symm; clear f1_ f2_ f3_; subst f4_; subst f5_))
      obtain ⟨Ao23, co23, eo23⟩ := Kd.R_slice HO369.out
      (first | subst eo23 | (injection eo23 with f1_ f2_ f3_; have f4_ := f1_.symm; have f5_ := f3_.symm; clear f1_ f2_ f3_; subst f4_; subst f5_))
      refine hK.out _ _ ⟨(blk_cell BK357.out 0).trans rfl, (blk_cell BK357.out 1).trans rfl, (blk_cell BK357.out 2).trans rfl, (blk_cell BK357.out 3).trans rfl, (blk_cell BK358.out 0).trans rfl, (blk_cell BK358.out 1).trans rfl⟩ (fun hHeld => ?_)
      clear hK K
      refine norm_ (a' := ?_) ?_ ?_
      rotate_left
      ·show Act.put _ (some 7) _ = _
       simp only [Act.put, List.setIfInBounds_toArray, List.set_cons_zero, List.set_cons_succ, i64_w, i32_w]
       rfl
      refine one_ (i := 3) (N := some 22) #[true, true, true, true, false, false, false, true, false, false] rfl rfl (one_of HT_.out (by kernel_rfl)) (by decide) (fun K hK => ?_)
      refine goes_ Try.func56 (by kernel_rfl) rfl #[.agg #[.int .i64 t362, .int .i64 t363, .slice Ao22 t364.length co22, .slice Ao23 t367.length co23], .agg #[.string a1_0, .string a1_1]] (by rfl) rfl rfl (by (try simp only [List.map_toArray, List.map_cons, List.map_nil]); first | done | rfl | (simp only [List.length_drop, List.length_take]; rfl)) ?_
      with_reducible refine (spec_l12Put.calls k t362 t363 _ _ t364 _ _ t367 a1_0 a1_1 t370 t371 t372 t375 t378 _ ?side1 ?side2 ?side3 ?side4 A8.out).mono ?_
      (case side1 => exact kc (Kd.R_reads' HO366.out).2.2)
      (case side2 => exact (Kd.R_reads' HO366.out).2.1)
      (case side3 => exact kc (Kd.R_reads' HO369.out).2.2)
      (case side4 => exact (Kd.R_reads' HO369.out).2.1)
      rintro e w24 ⟨v373, v376, v379, rfl, ho0, ho1, ho2, hb⟩
      refine ⟨_, rfl, ?_⟩
      have n0_ := Aside0.mk (Kd.R_mono (Kd.R_told (Kd.R_told (Kd.R_told (Kd.R_old (kr HO366.out) hb) (Kd.R_base ho0)) (Kd.R_base ho1)) (Kd.R_base ho2)) (fun _ h_ => h_.1))
      have n1_ := Aside0.mk (Kd.R_mono (Kd.R_told (Kd.R_told (Kd.R_told (Kd.R_old (kr HO369.out) hb) (Kd.R_base ho0)) (Kd.R_base ho1)) (Kd.R_base ho2)) (fun _ h_ => h_.1))
      have n2_ := Aside0.mk (Kd.R_lower (Kd.R_newB (Kd.R_new' (Kd.R_new' ho0 (Kd.R_lt (kr HO366.out))) (Kd.R_lt (kr HO369.out))) (bk BK358.out)) (below_size (bl4 HB.out GE357.out GE358.out GE359.out GE381.out)))
      have n3_ := Aside0.mk (Kd.R_lower (Kd.R_newB (Kd.R_new' (Kd.R_new' ho1 (Kd.R_lt (kr HO366.out))) (Kd.R_lt (kr HO369.out))) (bk BK358.out)) (below_size (bl4 HB.out GE357.out GE358.out GE359.out GE381.out)))
      have n4_ := Aside0.mk (Kd.R_lower (Kd.R_newB (Kd.R_new' (Kd.R_new' ho2 (Kd.R_lt (kr HO366.out))) (Kd.R_lt (kr HO369.out))) (bk BK358.out)) (below_size (bl4 HB.out GE357.out GE358.out GE359.out GE381.out)))
      have n5_ := Aside0.mk (blk_below (bk BK357.out) hb)
      have n6_ := Aside0.mk (blk_below (bk BK358.out) hb)
      have n7_ := Aside0.mk (blk_below (bk BK359.out) hb)
      have n8_ := Aside0.mk (blk_below (bk BK381.out) hb)
      have n9_ := Aside0.mk (below_step (bl4 HB.out GE357.out GE358.out GE359.out GE381.out) hb)
      clear HO366
      clear HO369
      clear BK357
      clear BK358
      clear BK359
      clear BK381
      clear HB
      have HO366 := n0_
      have HO369 := n1_
      have HO374 := n2_
      have HO377 := n3_
      have HO380 := n4_
      have BK357 := n5_
      have BK358 := n6_
      have BK359 := n7_
      have BK381 := n8_
      have HB := n9_
      clear n0_ n1_ n2_ n3_ n4_ n5_ n6_ n7_ n8_ n9_
      (try clear hb)
      (try clear hb2)
      (try clear hk)
      (try clear hi)
      (try clear ho0)
      (try clear ho1)
      (try clear ho2)
      refine hK.out _ _ ⟨(blk_cell BK357.out 0).trans rfl, (blk_cell BK357.out 1).trans rfl, (blk_cell BK357.out 2).trans rfl, (blk_cell BK357.out 3).trans rfl, (blk_cell BK358.out 0).trans rfl, (blk_cell BK358.out 1).trans rfl⟩ (fun hHeld => ?_)
      clear hK K
      refine norm_ (a' := ?_) ?_ ?_
      rotate_left
      ·show Act.put _ (some 22) _ = _
       simp only [Act.put, List.setIfInBounds_toArray, List.set_cons_zero, List.set_cons_succ, i64_w, i32_w]
       rfl
      refine pure_ (i := 4) (N := some 18) (v := ?_) (a' := ?_) #[true, true, true, true, true, false, false, true, false, false] rfl rfl (any_of HT_.out (by kernel_rfl)) (fun _ _ _ h => h) (Or.inl ⟨by rfl, ?_⟩) ?_ ?_
      rotate_left
      ·intro w'
       go_simp
       with_reducible rfl
      rotate_left
      ·simp only [Act.put, List.setIfInBounds_toArray, List.set_cons_zero, List.set_cons_succ, i64_w, i32_w]
       rfl
      refine pure_ (i := 5) (N := some 23) (v := ?_) (a' := ?_) #[true, true, true, true, true, true, false, true, false, false] rfl rfl (any_of HT_.out (by kernel_rfl)) (fun _ _ _ h => h) (Or.inl ⟨by rfl, ?_⟩) ?_ ?_
      rotate_left
      ·intro w'
       go_simp
       with_reducible rfl
      rotate_left
      ·simp only [Act.put, List.setIfInBounds_toArray, List.set_cons_zero, List.set_cons_succ, i64_w, i32_w]
       rfl
      refine pure_ (i := 6) (N := some 24) (v := ?_) (a' := ?_) #[true, true, true, true, true, true, true, true, false, false] rfl rfl (any_of HT_.out (by kernel_rfl)) (fun _ _ _ h => h) (Or.inl ⟨by rfl, ?_⟩) ?_ ?_
      rotate_left
      ·intro w'
       go_simp
       with_reducible rfl
      rotate_left
      ·simp only [Act.put, List.setIfInBounds_toArray, List.set_cons_zero, List.set_cons_succ, i64_w, i32_w]
       rfl
      exact norm_ (by simp only [putAll, Act.put, List.setIfInBounds_toArray, List.set_cons_zero, List.set_cons_succ]) (hCont (.slice Ao22 t364.length co22, .slice Ao23 t367.length co23, v373, v376, v379, gb381) _ ⟨hHeld, (by (with_reducible repeat (first | apply Kd.R_alloc | apply Kd.R_drewN | apply Kd.R_drew)); exact Kd.R_mono HO366.out (fun _ hk => ⟨hk.1.1.1.1, ⟨hk.1.1.2, ⟨hk.1.2, ⟨hk.2, hk.1.1.1.2⟩⟩⟩⟩)), (by (with_reducible repeat (first | apply Kd.R_alloc | apply Kd.R_drewN | apply Kd.R_drew)); exact Kd.R_mono HO369.out (fun _ hk => ⟨hk.1.1.1.1, ⟨hk.1.1.2, ⟨hk.1.2, ⟨hk.2, hk.1.1.1.2⟩⟩⟩⟩)), (by (with_reducible repeat (first | apply Kd.R_alloc | apply Kd.R_drewN | apply Kd.R_drew)); exact Kd.R_mono HO374.out (fun _ hk => ⟨hk.1.1.2, ⟨hk.1.2, ⟨hk.1.1.1.1, ⟨hk.1.1.1.2, hk.2⟩⟩⟩⟩)), (by (with_reducible repeat (first | apply Kd.R_alloc | apply Kd.R_drewN | apply Kd.R_drew)); exact Kd.R_mono HO377.out (fun _ hk => ⟨hk.1.1.2, ⟨hk.1.2, ⟨hk.1.1.1.1, ⟨hk.1.1.1.2, hk.2⟩⟩⟩⟩)), (by (with_reducible repeat (first | apply Kd.R_alloc | apply Kd.R_drewN | apply Kd.R_drew)); exact Kd.R_mono HO380.out (fun _ hk => ⟨hk.1.1.2, ⟨hk.1.2, ⟨hk.1.1.1.1, ⟨hk.1.1.1.2, hk.2⟩⟩⟩⟩)), (bk BK357.out), (bk BK358.out), (bk BK359.out), (bk BK381.out), GW381.out, GE381.out, NB357_381.out, NB381_357.out, NB358_381.out, NB381_358.out, NB359_381.out, NB381_359.out, (bl4 HB.out GE357.out GE358.out GE359.out GE381.out)⟩)
    ·skip
     refine box_step ?hg (N := 7) ?hd (cs := #[.int .i64 0, .int .i64 0, .slice none 0 0, .slice none 0 0]) (t := 28) ?hr ?_; (case hd => rfl); (case hg => rfl); (case hr => first | (go_simp; done) | (go_simp; rfl))
     intro gb381 hg w20 hbox hb
     have n0_ := Aside0.mk (blk_below (bk BK357.out) hb)
     have n1_ := Aside0.mk (blk_below (bk BK358.out) hb)
     have n2_ := Aside0.mk (blk_below (bk BK359.out) hb)
     have n3_ := Aside0.mk (below_step (bl3 HB.out GE357.out GE358.out GE359.out) hb)
     have n4_ := Aside0.mk (hbox)
     have n5_ := Aside0.mk ((by rw [hg]; exact (below_size (bl3 HB.out GE357.out GE358.out GE359.out)) : w.heap.size ≤ gb381))
     have n6_ := Aside0.mk ((by rw [hg]; exact (below_size (bl3 HB.out GE357.out GE358.out GE359.out)) : w.heap.size ≤ gb381))
     have n7_ := Aside0.mk ((by rw [hg]; exact Nat.ne_of_lt (blk_lt (bk BK357.out)) : gb357 ≠ gb381))
     have n8_ := Aside0.mk ((by rw [hg]; exact Nat.ne_of_gt (blk_lt (bk BK357.out)) : gb381 ≠ gb357))
     have n9_ := Aside0.mk ((by rw [hg]; exact Nat.ne_of_lt (blk_lt (bk BK358.out)) : gb358 ≠ gb381))
     have n10_ := Aside0.mk ((by rw [hg]; exact Nat.ne_of_gt (blk_lt (bk BK358.out)) : gb381 ≠ gb358))
     have n11_ := Aside0.mk ((by rw [hg]; exact Nat.ne_of_lt (blk_lt (bk BK359.out)) : gb359 ≠ gb381))
     have n12_ := Aside0.mk ((by rw [hg]; exact Nat.ne_of_gt (blk_lt (bk BK359.out)) : gb381 ≠ gb359))
     clear BK357
     clear BK358
     clear BK359
     clear HB
     have BK357 := n0_
     have BK358 := n1_
     have BK359 := n2_
     have HB := n3_
     have BK381 := n4_
     have GW381 := n5_
     have GE381 := n6_
     have NB357_381 := n7_
     have NB381_357 := n8_
     have NB358_381 := n9_
     have NB381_358 := n10_
     have NB359_381 := n11_
     have NB381_359 := n12_
     clear n0_ n1_ n2_ n3_ n4_ n5_ n6_ n7_ n8_ n9_ n10_ n11_ n12_
     clear hb hbox hg
     refine hK.out _ _ ⟨(blk_cell BK357.out 0).trans rfl, (blk_cell BK357.out 1).trans rfl, (blk_cell BK357.out 2).trans rfl, (blk_cell BK357.out 3).trans rfl, (blk_cell BK358.out 0).trans rfl, (blk_cell BK358.out 1).trans rfl⟩ (fun hHeld => ?_)
     clear hK K
     refine norm_ (a' := ?_) ?_ ?_
     rotate_left
     ·show Act.put _ (some 7) _ = _
      simp only [Act.put, List.setIfInBounds_toArray, List.set_cons_zero, List.set_cons_succ, i64_w, i32_w]
      rfl
     refine one_ (i := 1) (N := some 20) #[true, true, true, false, false, false, false, true, false, false] rfl rfl (one_of HT_.out (by kernel_rfl)) (by decide) (fun K hK => ?_)
     refine goes_ Try.func42 (by kernel_rfl) rfl #[.agg #[.int .i64 a0_0, .int .i64 a0_1, .slice A0_2 l0_2.length c0_2, .slice A0_3 l0_3.length c0_3]] (by rfl) rfl rfl (by (try simp only [List.map_toArray, List.map_cons, List.map_nil]); first | done | rfl | (simp only [List.length_drop, List.length_take]; rfl)) ?_
     with_reducible refine (spec_l12Own.calls a0_0 a0_1 _ _ l0_2 _ _ l0_3 t362 t363 t364 t367 _ ?side1 ?side2 ?side3 ?side4 A7.out).mono ?_
     (case side1 => exact kc (Kd.C_below HR0_2.out HB.out))
     (case side2 => exact HC0_2.out)
     (case side3 => exact kc (Kd.C_below HR0_3.out HB.out))
     (case side4 => exact HC0_3.out)
     rintro e w21 ⟨v365, v368, rfl, ho0, ho1, hb⟩
     refine ⟨_, rfl, ?_⟩
     have n0_ := Aside0.mk (Kd.R_lower (Kd.R_newB ho0 (bk BK358.out)) (below_size (bl4 HB.out GE357.out GE358.out GE359.out GE381.out)))
     have n1_ := Aside0.mk (Kd.R_lower (Kd.R_newB ho1 (bk BK358.out)) (below_size (bl4 HB.out GE357.out GE358.out GE359.out GE381.out)))
     have n2_ := Aside0.mk (blk_below (bk BK357.out) hb)
     have n3_ := Aside0.mk (blk_below (bk BK358.out) hb)
     have n4_ := Aside0.mk (blk_below (bk BK359.out) hb)
     have n5_ := Aside0.mk (blk_below (bk BK381.out) hb)
     have n6_ := Aside0.mk (below_step (bl4 HB.out GE357.out GE358.out GE359.out GE381.out) hb)
     clear BK357
     clear BK358
     clear BK359
     clear BK381
     clear HB
     have HO366 := n0_
     have HO369 := n1_
     have BK357 := n2_
     have BK358 := n3_
     have BK359 := n4_
     have BK381 := n5_
     have HB := n6_
     clear n0_ n1_ n2_ n3_ n4_ n5_ n6_
     (try clear hb)
     (try clear hb2)
     (try clear hk)
     (try clear hi)
     (try clear ho0)
     (try clear ho1)
     obtain ⟨Ao22, co22, eo22⟩ := Kd.R_slice HO366.out
     (first | subst eo22 | (injection eo22 with f1_ f2_ f3_; have f4_ := f1_.symm; have f5_ := f3_.symm; clear f1_ f2_ f3_; subst f4_; subst f5_))
     obtain ⟨Ao23, co23, eo23⟩ := Kd.R_slice HO369.out
     (first | subst eo23 | (injection eo23 with f1_ f2_ f3_; have f4_ := f1_.symm; have f5_ := f3_.symm; clear f1_ f2_ f3_; subst f4_; subst f5_))
     refine hK.out _ _ ⟨(blk_cell BK357.out 0).trans rfl, (blk_cell BK357.out 1).trans rfl, (blk_cell BK357.out 2).trans rfl, (blk_cell BK357.out 3).trans rfl, (blk_cell BK358.out 0).trans rfl, (blk_cell BK358.out 1).trans rfl⟩ (fun hHeld => ?_)
     clear hK K
     refine norm_ (a' := ?_) ?_ ?_
     rotate_left
     ·show Act.put _ (some 20) _ = _
      simp only [Act.put, List.setIfInBounds_toArray, List.set_cons_zero, List.set_cons_succ, i64_w, i32_w]
      rfl
     refine one_ (i := 3) (N := some 22) #[true, true, true, true, false, false, false, true, false, false] rfl rfl (one_of HT_.out (by kernel_rfl)) (by decide) (fun K hK => ?_)
     refine goes_ Try.func56 (by kernel_rfl) rfl #[.agg #[.int .i64 t362, .int .i64 t363, .slice Ao22 t364.length co22, .slice Ao23 t367.length co23], .agg #[.string a1_0, .string a1_1]] (by rfl) rfl rfl (by (try simp only [List.map_toArray, List.map_cons, List.map_nil]); first | done | rfl | (simp only [List.length_drop, List.length_take]; rfl)) ?_
     with_reducible refine (spec_l12Put.calls k t362 t363 _ _ t364 _ _ t367 a1_0 a1_1 t370 t371 t372 t375 t378 _ ?side1 ?side2 ?side3 ?side4 A8.out).mono ?_
     (case side1 => exact kc (Kd.R_reads' HO366.out).2.2)
     (case side2 => exact (Kd.R_reads' HO366.out).2.1)
     (case side3 => exact kc (Kd.R_reads' HO369.out).2.2)
     (case side4 => exact (Kd.R_reads' HO369.out).2.1)
     rintro e w24 ⟨v373, v376, v379, rfl, ho0, ho1, ho2, hb⟩
     refine ⟨_, rfl, ?_⟩
     have n0_ := Aside0.mk (Kd.R_mono (Kd.R_told (Kd.R_told (Kd.R_told (Kd.R_old (kr HO366.out) hb) (Kd.R_base ho0)) (Kd.R_base ho1)) (Kd.R_base ho2)) (fun _ h_ => h_.1))
     have n1_ := Aside0.mk (Kd.R_mono (Kd.R_told (Kd.R_told (Kd.R_told (Kd.R_old (kr HO369.out) hb) (Kd.R_base ho0)) (Kd.R_base ho1)) (Kd.R_base ho2)) (fun _ h_ => h_.1))
     have n2_ := Aside0.mk (Kd.R_lower (Kd.R_newB (Kd.R_new' (Kd.R_new' ho0 (Kd.R_lt (kr HO366.out))) (Kd.R_lt (kr HO369.out))) (bk BK358.out)) (below_size (bl4 HB.out GE357.out GE358.out GE359.out GE381.out)))
     have n3_ := Aside0.mk (Kd.R_lower (Kd.R_newB (Kd.R_new' (Kd.R_new' ho1 (Kd.R_lt (kr HO366.out))) (Kd.R_lt (kr HO369.out))) (bk BK358.out)) (below_size (bl4 HB.out GE357.out GE358.out GE359.out GE381.out)))
     have n4_ := Aside0.mk (Kd.R_lower (Kd.R_newB (Kd.R_new' (Kd.R_new' ho2 (Kd.R_lt (kr HO366.out))) (Kd.R_lt (kr HO369.out))) (bk BK358.out)) (below_size (bl4 HB.out GE357.out GE358.out GE359.out GE381.out)))
     have n5_ := Aside0.mk (blk_below (bk BK357.out) hb)
     have n6_ := Aside0.mk (blk_below (bk BK358.out) hb)
     have n7_ := Aside0.mk (blk_below (bk BK359.out) hb)
     have n8_ := Aside0.mk (blk_below (bk BK381.out) hb)
     have n9_ := Aside0.mk (below_step (bl4 HB.out GE357.out GE358.out GE359.out GE381.out) hb)
     clear HO366
     clear HO369
     clear BK357
     clear BK358
     clear BK359
     clear BK381
     clear HB
     have HO366 := n0_
     have HO369 := n1_
     have HO374 := n2_
     have HO377 := n3_
     have HO380 := n4_
     have BK357 := n5_
     have BK358 := n6_
     have BK359 := n7_
     have BK381 := n8_
     have HB := n9_
     clear n0_ n1_ n2_ n3_ n4_ n5_ n6_ n7_ n8_ n9_
     (try clear hb)
     (try clear hb2)
     (try clear hk)
     (try clear hi)
     (try clear ho0)
     (try clear ho1)
     (try clear ho2)
     refine hK.out _ _ ⟨(blk_cell BK357.out 0).trans rfl, (blk_cell BK357.out 1).trans rfl, (blk_cell BK357.out 2).trans rfl, (blk_cell BK357.out 3).trans rfl, (blk_cell BK358.out 0).trans rfl, (blk_cell BK358.out 1).trans rfl⟩ (fun hHeld => ?_)
     clear hK K
     refine norm_ (a' := ?_) ?_ ?_
     rotate_left
     ·show Act.put _ (some 22) _ = _
      simp only [Act.put, List.setIfInBounds_toArray, List.set_cons_zero, List.set_cons_succ, i64_w, i32_w]
      rfl
     refine pure_ (i := 4) (N := some 18) (v := ?_) (a' := ?_) #[true, true, true, true, true, false, false, true, false, false] rfl rfl (any_of HT_.out (by kernel_rfl)) (fun _ _ _ h => h) (Or.inl ⟨by rfl, ?_⟩) ?_ ?_
     rotate_left
     ·intro w'
      go_simp
      with_reducible rfl
     rotate_left
     ·simp only [Act.put, List.setIfInBounds_toArray, List.set_cons_zero, List.set_cons_succ, i64_w, i32_w]
      rfl
     refine pure_ (i := 5) (N := some 23) (v := ?_) (a' := ?_) #[true, true, true, true, true, true, false, true, false, false] rfl rfl (any_of HT_.out (by kernel_rfl)) (fun _ _ _ h => h) (Or.inl ⟨by rfl, ?_⟩) ?_ ?_
     rotate_left
     ·intro w'
      go_simp
      with_reducible rfl
     rotate_left
     ·simp only [Act.put, List.setIfInBounds_toArray, List.set_cons_zero, List.set_cons_succ, i64_w, i32_w]
      rfl
     refine pure_ (i := 6) (N := some 24) (v := ?_) (a' := ?_) #[true, true, true, true, true, true, true, true, false, false] rfl rfl (any_of HT_.out (by kernel_rfl)) (fun _ _ _ h => h) (Or.inl ⟨by rfl, ?_⟩) ?_ ?_
     rotate_left
     ·intro w'
      go_simp
      with_reducible rfl
     rotate_left
     ·simp only [Act.put, List.setIfInBounds_toArray, List.set_cons_zero, List.set_cons_succ, i64_w, i32_w]
      rfl
     exact norm_ (by simp only [putAll, Act.put, List.setIfInBounds_toArray, List.set_cons_zero, List.set_cons_succ]) (hCont (.slice Ao22 t364.length co22, .slice Ao23 t367.length co23, v373, v376, v379, gb381) _ ⟨hHeld, (by (with_reducible repeat (first | apply Kd.R_alloc | apply Kd.R_drewN | apply Kd.R_drew)); exact Kd.R_mono HO366.out (fun _ hk => ⟨hk.1.1.1.1, ⟨hk.1.1.2, ⟨hk.1.2, ⟨hk.2, hk.1.1.1.2⟩⟩⟩⟩)), (by (with_reducible repeat (first | apply Kd.R_alloc | apply Kd.R_drewN | apply Kd.R_drew)); exact Kd.R_mono HO369.out (fun _ hk => ⟨hk.1.1.1.1, ⟨hk.1.1.2, ⟨hk.1.2, ⟨hk.2, hk.1.1.1.2⟩⟩⟩⟩)), (by (with_reducible repeat (first | apply Kd.R_alloc | apply Kd.R_drewN | apply Kd.R_drew)); exact Kd.R_mono HO374.out (fun _ hk => ⟨hk.1.1.2, ⟨hk.1.2, ⟨hk.1.1.1.1, ⟨hk.1.1.1.2, hk.2⟩⟩⟩⟩)), (by (with_reducible repeat (first | apply Kd.R_alloc | apply Kd.R_drewN | apply Kd.R_drew)); exact Kd.R_mono HO377.out (fun _ hk => ⟨hk.1.1.2, ⟨hk.1.2, ⟨hk.1.1.1.1, ⟨hk.1.1.1.2, hk.2⟩⟩⟩⟩)), (by (with_reducible repeat (first | apply Kd.R_alloc | apply Kd.R_drewN | apply Kd.R_drew)); exact Kd.R_mono HO380.out (fun _ hk => ⟨hk.1.1.2, ⟨hk.1.2, ⟨hk.1.1.1.1, ⟨hk.1.1.1.2, hk.2⟩⟩⟩⟩)), (bk BK357.out), (bk BK358.out), (bk BK359.out), (bk BK381.out), GW381.out, GE381.out, NB357_381.out, NB381_357.out, NB358_381.out, NB381_358.out, NB359_381.out, NB381_359.out, (bl4 HB.out GE357.out GE358.out GE359.out GE381.out)⟩)
   rintro ⟨v365, v368, v373, v376, v379, gb381⟩ w25 ⟨hS_, h0_, h1_, h2_, h3_, h4_, h5_, h6_, h7_, h8_, h9_, h10_, h11_, h12_, h13_, h14_, h15_, h16_, h17_⟩
   have n0_ : Aside0 (Kd.R k45 45 w25 w.heap.size (fun k_ => some k_ ≠ (v368 : Value).ownBlock ∧ some k_ ≠ (v373 : Value).ownBlock ∧ some k_ ≠ (v376 : Value).ownBlock ∧ some k_ ≠ (v379 : Value).ownBlock ∧ k_ ≠ gb358) v365 t364) := ⟨h0_⟩
   have n1_ : Aside0 (Kd.R k45 45 w25 w.heap.size (fun k_ => some k_ ≠ (v365 : Value).ownBlock ∧ some k_ ≠ (v373 : Value).ownBlock ∧ some k_ ≠ (v376 : Value).ownBlock ∧ some k_ ≠ (v379 : Value).ownBlock ∧ k_ ≠ gb358) v368 t367) := ⟨h1_⟩
   have n2_ : Aside0 (Kd.R k45 45 w25 w.heap.size (fun k_ => some k_ ≠ (v365 : Value).ownBlock ∧ some k_ ≠ (v368 : Value).ownBlock ∧ some k_ ≠ (v376 : Value).ownBlock ∧ some k_ ≠ (v379 : Value).ownBlock ∧ k_ ≠ gb358) v373 t372) := ⟨h2_⟩
   have n3_ : Aside0 (Kd.R k45 45 w25 w.heap.size (fun k_ => some k_ ≠ (v365 : Value).ownBlock ∧ some k_ ≠ (v368 : Value).ownBlock ∧ some k_ ≠ (v373 : Value).ownBlock ∧ some k_ ≠ (v379 : Value).ownBlock ∧ k_ ≠ gb358) v376 t375) := ⟨h3_⟩
   have n4_ : Aside0 (Kd.R k45 45 w25 w.heap.size (fun k_ => some k_ ≠ (v365 : Value).ownBlock ∧ some k_ ≠ (v368 : Value).ownBlock ∧ some k_ ≠ (v373 : Value).ownBlock ∧ some k_ ≠ (v376 : Value).ownBlock ∧ k_ ≠ gb358) v379 t378) := ⟨h4_⟩
   have n5_ : Aside0 (w25.heap[gb357]? = some (.cells #[.int .i64 a0_0, .int .i64 a0_1, .slice A0_2 l0_2.length c0_2, .slice A0_3 l0_3.length c0_3] 28 (0, 0))) := ⟨h5_⟩
   have n6_ : Aside0 (w25.heap[gb358]? = some (.cells #[.string a1_0, .string a1_1] 45 (0, 0))) := ⟨h6_⟩
   have n7_ : Aside0 (w25.heap[gb359]? = some (.cells #[.int .i64 0, .int .i64 0, .slice none 0 0, .slice none 0 0] 28 (0, 0))) := ⟨h7_⟩
   have n8_ : Aside0 (w25.heap[gb381]? = some (.cells #[.int .i64 0, .int .i64 0, .slice none 0 0, .slice none 0 0] 28 (0, 0))) := ⟨h8_⟩
   have n9_ : Aside0 (w.heap.size ≤ gb381) := ⟨h9_⟩
   have n10_ : Aside0 (w.heap.size ≤ gb381) := ⟨h10_⟩
   have n11_ : Aside0 (gb357 ≠ gb381) := ⟨h11_⟩
   have n12_ : Aside0 (gb381 ≠ gb357) := ⟨h12_⟩
   have n13_ : Aside0 (gb358 ≠ gb381) := ⟨h13_⟩
   have n14_ : Aside0 (gb381 ≠ gb358) := ⟨h14_⟩
   have n15_ : Aside0 (gb359 ≠ gb381) := ⟨h15_⟩
   have n16_ : Aside0 (gb381 ≠ gb359) := ⟨h16_⟩
   have n17_ : Aside0 (Below w.heap.size w w25) := ⟨h17_⟩
   clear BK357
   clear BK358
   clear BK359
   clear HB
   clear h0_ h1_ h2_ h3_ h4_ h5_ h6_ h7_ h8_ h9_ h10_ h11_ h12_ h13_ h14_ h15_ h16_ h17_
   have HO366 := n0_
   have HO369 := n1_
   have HO374 := n2_
   have HO377 := n3_
   have HO380 := n4_
   have BK357 := n5_
   have BK358 := n6_
   have BK359 := n7_
   have BK381 := n8_
   have GW381 := n9_
   have GE381 := n10_
   have NB357_381 := n11_
   have NB381_357 := n12_
   have NB358_381 := n13_
   have NB381_358 := n14_
   have NB359_381 := n15_
   have NB381_359 := n16_
   have HB := n17_
   clear n0_ n1_ n2_ n3_ n4_ n5_ n6_ n7_ n8_ n9_ n10_ n11_ n12_ n13_ n14_ n15_ n16_ n17_
   have hHeld : w25.cell? ⟨gb357, 0, none⟩ = some (.int .i64 a0_0) ∧ w25.cell? ⟨gb357, 1, none⟩ = some (.int .i64 a0_1) ∧ w25.cell? ⟨gb357, 2, none⟩ = some (.slice A0_2 l0_2.length c0_2) ∧ w25.cell? ⟨gb357, 3, none⟩ = some (.slice A0_3 l0_3.length c0_3) ∧ w25.cell? ⟨gb358, 0, none⟩ = some (.string a1_0) ∧ w25.cell? ⟨gb358, 1, none⟩ = some (.string a1_1) := hS_
   obtain ⟨Ao28, co28, eo28⟩ := Kd.R_slice HO374.out
   (first | subst eo28 | (injection eo28 with f1_ f2_ f3_; have f4_ := f1_.symm; have f5_ := f3_.symm; clear f1_ f2_ f3_; subst f4_; subst f5_))
   obtain ⟨Ao30, co30, eo30⟩ := Kd.R_slice HO377.out
   (first | subst eo30 | (injection eo30 with f1_ f2_ f3_; have f4_ := f1_.symm; have f5_ := f3_.symm; clear f1_ f2_ f3_; subst f4_; subst f5_))
   refine norm_ (a' := ?_) ?_ ?_
   rotate_left
   ·simp only [putAll, Act.put, List.setIfInBounds_toArray, List.set_cons_zero, List.set_cons_succ]
    rfl
   refine one_ (i := 8) (N := none) #[true, true, true, true, true, true, true, true, true, false] rfl rfl (one_of HT_.out (by kernel_rfl)) (by decide) (fun K hK => ?_)
   have hs26 : w25.cell? ⟨gb381, 0, none⟩ = some (.int .i64 0) := (blk_cell BK381.out 0).trans rfl
   have hfs26 := blk_frozen BK381.out 0
   have hns26_0 := NB357_381.out
   have hns26_1 := NB358_381.out
   have hns26_2 := NB359_381.out
   have hms26_0 := NB381_357.out
   have hms26_1 := NB381_358.out
   have hms26_2 := NB381_359.out
   have hs27 : w25.cell? ⟨gb381, 1, none⟩ = some (.int .i64 0) := (blk_cell BK381.out 1).trans rfl
   have hfs27 := blk_frozen BK381.out 1
   have hns27_0 := NB357_381.out
   have hns27_1 := NB358_381.out
   have hns27_2 := NB359_381.out
   have hms27_0 := NB381_357.out
   have hms27_1 := NB381_358.out
   have hms27_2 := NB381_359.out
   have hs29 : w25.cell? ⟨gb381, 2, none⟩ = some (.slice none 0 0) := (blk_cell BK381.out 2).trans rfl
   have hfs29 := blk_frozen BK381.out 2
   have hns29_0 := NB357_381.out
   have hns29_1 := NB358_381.out
   have hns29_2 := NB359_381.out
   have hms29_0 := NB381_357.out
   have hms29_1 := NB381_358.out
   have hms29_2 := NB381_359.out
   have hs31 : w25.cell? ⟨gb381, 3, none⟩ = some (.slice none 0 0) := (blk_cell BK381.out 3).trans rfl
   have hfs31 := blk_frozen BK381.out 3
   have hns31_0 := NB357_381.out
   have hns31_1 := NB358_381.out
   have hns31_2 := NB359_381.out
   have hms31_0 := NB381_357.out
   have hms31_1 := NB381_358.out
   have hms31_2 := NB381_359.out
   refine skip_ (w1 := ?_) (by rfl) rfl ?_ ?_
   rotate_left
   ·go_simp
    rfl
   refine hK.out _ _ ⟨((cell_far (p := ⟨gb381, _, none⟩) NB357_381.out _).trans (((cell_far (p := ⟨gb381, _, none⟩) NB357_381.out _).trans (((cell_far (p := ⟨gb381, _, none⟩) NB357_381.out _).trans (((cell_far (p := ⟨gb381, _, none⟩) NB357_381.out _).trans (hHeld.1)))))))), ((cell_far (p := ⟨gb381, _, none⟩) NB357_381.out _).trans (((cell_far (p := ⟨gb381, _, none⟩) NB357_381.out _).trans (((cell_far (p := ⟨gb381, _, none⟩) NB357_381.out _).trans (((cell_far (p := ⟨gb381, _, none⟩) NB357_381.out _).trans (hHeld.2.1)))))))), ((cell_far (p := ⟨gb381, _, none⟩) NB357_381.out _).trans (((cell_far (p := ⟨gb381, _, none⟩) NB357_381.out _).trans (((cell_far (p := ⟨gb381, _, none⟩) NB357_381.out _).trans (((cell_far (p := ⟨gb381, _, none⟩) NB357_381.out _).trans (hHeld.2.2.1)))))))), ((cell_far (p := ⟨gb381, _, none⟩) NB357_381.out _).trans (((cell_far (p := ⟨gb381, _, none⟩) NB357_381.out _).trans (((cell_far (p := ⟨gb381, _, none⟩) NB357_381.out _).trans (((cell_far (p := ⟨gb381, _, none⟩) NB357_381.out _).trans (hHeld.2.2.2.1)))))))), ((cell_far (p := ⟨gb381, _, none⟩) NB358_381.out _).trans (((cell_far (p := ⟨gb381, _, none⟩) NB358_381.out _).trans (((cell_far (p := ⟨gb381, _, none⟩) NB358_381.out _).trans (((cell_far (p := ⟨gb381, _, none⟩) NB358_381.out _).trans (hHeld.2.2.2.2.1)))))))), ((cell_far (p := ⟨gb381, _, none⟩) NB358_381.out _).trans (((cell_far (p := ⟨gb381, _, none⟩) NB358_381.out _).trans (((cell_far (p := ⟨gb381, _, none⟩) NB358_381.out _).trans (((cell_far (p := ⟨gb381, _, none⟩) NB358_381.out _).trans (hHeld.2.2.2.2.2))))))))⟩ (fun hHeld => ?_)
   clear hK K
   refine pure_ (i := 9) (N := some 8) (v := ?_) (a' := ?_) #[true, true, true, true, true, true, true, true, true, true] rfl rfl (any_of HT_.out (by kernel_rfl)) (fun _ _ _ h => h) (Or.inl ⟨by rfl, ?_⟩) ?_ ?_
   rotate_left
   ·intro w'
    go_simp
    with_reducible rfl
   rotate_left
   ·simp only [Act.put, List.setIfInBounds_toArray, List.set_cons_zero, List.set_cons_succ, i64_w, i32_w]
    rfl
   refine done_ (done_of HT_.out (by kernel_rfl)) ?_
   have hnb32 := NB381_357.out
   have hnc32 := NB357_381.out
   have hnb33 := NB381_358.out
   have hnc33 := NB358_381.out
   have hnb34 := NB381_359.out
   have hnc34 := NB359_381.out
   have hcz35_0 : w25.cell? ⟨gb381, 0, none⟩ = some (.int .i64 0) := (blk_cell BK381.out 0).trans rfl
   have hcz35_1 : w25.cell? ⟨gb381, 1, none⟩ = some (.int .i64 0) := (blk_cell BK381.out 1).trans rfl
   have hcz35_2 : w25.cell? ⟨gb381, 2, none⟩ = some (.slice none 0 0) := (blk_cell BK381.out 2).trans rfl
   have hcz35_3 : w25.cell? ⟨gb381, 3, none⟩ = some (.slice none 0 0) := (blk_cell BK381.out 3).trans rfl
   have hfz35_0 := blk_frozen BK381.out 0
   have hfz35_1 := blk_frozen BK381.out 1
   have hfz35_2 := blk_frozen BK381.out 2
   have hfz35_3 := blk_frozen BK381.out 3
   have hcz36_0 : w25.cell? ⟨gb359, 0, none⟩ = some (.int .i64 0) := (blk_cell BK359.out 0).trans rfl
   have hcz36_1 : w25.cell? ⟨gb359, 1, none⟩ = some (.int .i64 0) := (blk_cell BK359.out 1).trans rfl
   have hcz36_2 : w25.cell? ⟨gb359, 2, none⟩ = some (.slice none 0 0) := (blk_cell BK359.out 2).trans rfl
   have hcz36_3 : w25.cell? ⟨gb359, 3, none⟩ = some (.slice none 0 0) := (blk_cell BK359.out 3).trans rfl
   have hfz36_0 := blk_frozen BK359.out 0
   have hfz36_1 := blk_frozen BK359.out 1
   have hfz36_2 := blk_frozen BK359.out 2
   have hfz36_3 := blk_frozen BK359.out 3
   try go_wp2
   refine bodyPost_ret (results_ctt rfl _ _ gb359 28 #[.int .i64 t370, .int .i64 t371, .slice Ao28 t372.length co28, .slice Ao30 t375.length co30] (0, 0) _ rfl (by (with_reducible repeat (first | refine blk_drewN ?_ _ | refine blk_drew ?_ | refine blk_alloc ?_ _)); refine blk_put (cs := #[.int .i64 t370, .int .i64 t371, .slice Ao28 t372.length co28, .slice none 0 0]) ?_ 3 _ rfl; (with_reducible repeat (first | refine blk_drewN ?_ _ | refine blk_drew ?_ | refine blk_alloc ?_ _)); refine blk_put (cs := #[.int .i64 t370, .int .i64 t371, .slice none 0 0, .slice none 0 0]) ?_ 2 _ rfl; (with_reducible repeat (first | refine blk_drewN ?_ _ | refine blk_drew ?_ | refine blk_alloc ?_ _)); refine blk_put (cs := #[.int .i64 t370, .int .i64 0, .slice none 0 0, .slice none 0 0]) ?_ 1 _ rfl; (with_reducible repeat (first | refine blk_drewN ?_ _ | refine blk_drew ?_ | refine blk_alloc ?_ _)); refine blk_put (cs := #[.int .i64 0, .int .i64 0, .slice none 0 0, .slice none 0 0]) ?_ 0 _ rfl; (with_reducible repeat (first | refine blk_drewN ?_ _ | refine blk_drew ?_ | refine blk_alloc ?_ _)); refine blk_far ?_ NB359_381.out _; (with_reducible repeat (first | refine blk_drewN ?_ _ | refine blk_drew ?_ | refine blk_alloc ?_ _)); refine blk_far ?_ NB359_381.out _; (with_reducible repeat (first | refine blk_drewN ?_ _ | refine blk_drew ?_ | refine blk_alloc ?_ _)); refine blk_far ?_ NB359_381.out _; (with_reducible repeat (first | refine blk_drewN ?_ _ | refine blk_drew ?_ | refine blk_alloc ?_ _)); refine blk_far ?_ NB359_381.out _; exact bk BK359.out) Try.underlying28 rfl (by kernel_rfl)) rfl ?_
   exact ⟨_, _, _, by first | rfl | (simp [errW_none, errW_some] <;> rfl) | (simp [*, errW_none, errW_some] <;> rfl), by (with_reducible repeat (first | apply Kd.R_alloc | apply Kd.R_drewN | apply Kd.R_drew)); exact Kd.R_mono (Kd.R_far (p := ⟨gb359, 3, none⟩) (Kd.R_far (p := ⟨gb359, 2, none⟩) (Kd.R_far (p := ⟨gb359, 1, none⟩) (Kd.R_far (p := ⟨gb359, 0, none⟩) (Kd.R_far (p := ⟨gb381, 3, none⟩) (Kd.R_far (p := ⟨gb381, 2, none⟩) (Kd.R_far (p := ⟨gb381, 1, none⟩) (Kd.R_far (p := ⟨gb381, 0, none⟩) (Kd.R_types (Kd.R_types HO374.out BK381.out (by decide)) BK359.out (by decide)) (fun _ hk => hk.1.2) (.int .i64 t370)) (fun _ hk => hk.1.2) (.int .i64 t371)) (fun _ hk => hk.1.2) (.slice Ao28 t372.length co28)) (fun _ hk => hk.1.2) (.slice Ao30 t375.length co30)) (fun _ hk => hk.2) (.int .i64 t370)) (fun _ hk => hk.2) (.int .i64 t371)) (fun _ hk => hk.2) (.slice Ao28 t372.length co28)) (fun _ hk => hk.2) (.slice Ao30 t375.length co30)) (fun _ hk => ⟨hk.1.1.2.2.1, hk.1.1.2.2.2.1⟩), by (with_reducible repeat (first | apply Kd.R_alloc | apply Kd.R_drewN | apply Kd.R_drew)); exact Kd.R_mono (Kd.R_far (p := ⟨gb359, 3, none⟩) (Kd.R_far (p := ⟨gb359, 2, none⟩) (Kd.R_far (p := ⟨gb359, 1, none⟩) (Kd.R_far (p := ⟨gb359, 0, none⟩) (Kd.R_far (p := ⟨gb381, 3, none⟩) (Kd.R_far (p := ⟨gb381, 2, none⟩) (Kd.R_far (p := ⟨gb381, 1, none⟩) (Kd.R_far (p := ⟨gb381, 0, none⟩) (Kd.R_types (Kd.R_types HO377.out BK381.out (by decide)) BK359.out (by decide)) (fun _ hk => hk.1.2) (.int .i64 t370)) (fun _ hk => hk.1.2) (.int .i64 t371)) (fun _ hk => hk.1.2) (.slice Ao28 t372.length co28)) (fun _ hk => hk.1.2) (.slice Ao30 t375.length co30)) (fun _ hk => hk.2) (.int .i64 t370)) (fun _ hk => hk.2) (.int .i64 t371)) (fun _ hk => hk.2) (.slice Ao28 t372.length co28)) (fun _ hk => hk.2) (.slice Ao30 t375.length co30)) (fun _ hk => ⟨hk.1.1.2.2.1, hk.1.1.2.2.2.1⟩), by (with_reducible repeat (first | apply Kd.R_alloc | apply Kd.R_drewN | apply Kd.R_drew)); exact Kd.R_mono (Kd.R_far (p := ⟨gb359, 3, none⟩) (Kd.R_far (p := ⟨gb359, 2, none⟩) (Kd.R_far (p := ⟨gb359, 1, none⟩) (Kd.R_far (p := ⟨gb359, 0, none⟩) (Kd.R_far (p := ⟨gb381, 3, none⟩) (Kd.R_far (p := ⟨gb381, 2, none⟩) (Kd.R_far (p := ⟨gb381, 1, none⟩) (Kd.R_far (p := ⟨gb381, 0, none⟩) (Kd.R_types (Kd.R_types HO380.out BK381.out (by decide)) BK359.out (by decide)) (fun _ hk => hk.1.2) (.int .i64 t370)) (fun _ hk => hk.1.2) (.int .i64 t371)) (fun _ hk => hk.1.2) (.slice Ao28 t372.length co28)) (fun _ hk => hk.1.2) (.slice Ao30 t375.length co30)) (fun _ hk => hk.2) (.int .i64 t370)) (fun _ hk => hk.2) (.int .i64 t371)) (fun _ hk => hk.2) (.slice Ao28 t372.length co28)) (fun _ hk => hk.2) (.slice Ao30 t375.length co30)) (fun _ hk => ⟨hk.1.1.2.2.1, hk.1.1.2.2.2.1⟩), bl4 HB.out GE357.out GE358.out GE359.out GE381.out⟩
  ·replace c6 := Bool.eq_false_iff.mpr c6
   subst c6
   have H1 : (some (0, 0, ([] : List (S45)), ([] : List (S45)), ([] : List (S45)), false)) = some (r1, r2, r3, r4, r5, r6) := by rw [if_neg (show ¬ (false = true) by decide)] at H; exact H
   clear H
   have H := H1
   clear H1
   simp only [Option.some.injEq, Prod.mk.injEq] at H
   obtain ⟨rfl, rfl, rfl, rfl, rfl, rfl⟩ := H
   go_enter Try.func25, Try.ntmps25
   go_wp2_with (first | ((with_reducible refine gate_dst (N := 2) rfl ?_); refine box_event ?hg (N := 2) ?hd (cs := #[.int .i64 a0_0, .int .i64 a0_1, .slice A0_2 l0_2.length c0_2, .slice A0_3 l0_3.length c0_3]) (t := 28) ?hr ?_; (case hd => rfl); (case hg => rfl); (case hr => first | (go_simp; done) | (go_simp; rfl)); intro gb357 hg w37 hbox hb; have n0_ := Aside0.mk (below_step (bl HB.out) hb); have n1_ := Aside0.mk (hbox); have n2_ := Aside0.mk ((by rw [hg]; exact (below_size (bl HB.out)) : w.heap.size ≤ gb357)); have n3_ := Aside0.mk ((by rw [hg]; exact (below_size (bl HB.out)) : w.heap.size ≤ gb357)); clear HB; have HB := n0_; have BK357 := n1_; have GW357 := n2_; have GE357 := n3_; clear n0_ n1_ n2_ n3_; clear hb hbox hg) | ((with_reducible refine gate_dst (N := 3) rfl ?_); refine box_event ?hg (N := 3) ?hd (cs := #[.string a1_0, .string a1_1]) (t := 45) ?hr ?_; (case hd => rfl); (case hg => rfl); (case hr => first | (go_simp; done) | (go_simp; rfl)); intro gb358 hg w38 hbox hb; have n0_ := Aside0.mk (blk_below (bk BK357.out) hb); have n1_ := Aside0.mk (below_step (bl1 HB.out GE357.out) hb); have n2_ := Aside0.mk (hbox); have n3_ := Aside0.mk ((by rw [hg]; exact (below_size (bl1 HB.out GE357.out)) : w.heap.size ≤ gb358)); have n4_ := Aside0.mk ((by rw [hg]; exact (below_size (bl1 HB.out GE357.out)) : w.heap.size ≤ gb358)); have n5_ := Aside0.mk ((by rw [hg]; exact Nat.ne_of_lt (blk_lt (bk BK357.out)) : gb357 ≠ gb358)); have n6_ := Aside0.mk ((by rw [hg]; exact Nat.ne_of_gt (blk_lt (bk BK357.out)) : gb358 ≠ gb357)); clear BK357; clear HB; have BK357 := n0_; have HB := n1_; have BK358 := n2_; have GW358 := n3_; have GE358 := n4_; have NB357_358 := n5_; have NB358_357 := n6_; clear n0_ n1_ n2_ n3_ n4_ n5_ n6_; clear hb hbox hg) | ((with_reducible refine gate_dst (N := 4) rfl ?_); refine box_event ?hg (N := 4) ?hd (cs := #[.int .i64 0, .int .i64 0, .slice none 0 0, .slice none 0 0]) (t := 28) ?hr ?_; (case hd => rfl); (case hg => rfl); (case hr => first | (go_simp; done) | (go_simp; rfl)); intro gb359 hg w39 hbox hb; have n0_ := Aside0.mk (blk_below (bk BK357.out) hb); have n1_ := Aside0.mk (blk_below (bk BK358.out) hb); have n2_ := Aside0.mk (below_step (bl2 HB.out GE357.out GE358.out) hb); have n3_ := Aside0.mk (hbox); have n4_ := Aside0.mk ((by rw [hg]; exact (below_size (bl2 HB.out GE357.out GE358.out)) : w.heap.size ≤ gb359)); have n5_ := Aside0.mk ((by rw [hg]; exact (below_size (bl2 HB.out GE357.out GE358.out)) : w.heap.size ≤ gb359)); have n6_ := Aside0.mk ((by rw [hg]; exact Nat.ne_of_lt (blk_lt (bk BK357.out)) : gb357 ≠ gb359)); have n7_ := Aside0.mk ((by rw [hg]; exact Nat.ne_of_gt (blk_lt (bk BK357.out)) : gb359 ≠ gb357)); have n8_ := Aside0.mk ((by rw [hg]; exact Nat.ne_of_lt (blk_lt (bk BK358.out)) : gb358 ≠ gb359)); have n9_ := Aside0.mk ((by rw [hg]; exact Nat.ne_of_gt (blk_lt (bk BK358.out)) : gb359 ≠ gb358)); clear BK357; clear BK358; clear HB; have BK357 := n0_; have BK358 := n1_; have HB := n2_; have BK359 := n3_; have GW359 := n4_; have GE359 := n5_; have NB357_359 := n6_; have NB359_357 := n7_; have NB358_359 := n8_; have NB359_358 := n9_; clear n0_ n1_ n2_ n3_ n4_ n5_ n6_ n7_ n8_ n9_; clear hb hbox hg; have hnb40 := NB357_358.out; have hnc40 := NB358_357.out; have hnb41 := NB357_359.out; have hnc41 := NB359_357.out; have hcz42_0 : w39.cell? ⟨gb357, 0, none⟩ = some (.int .i64 a0_0) := (blk_cell BK357.out 0).trans rfl; have hcz42_1 : w39.cell? ⟨gb357, 1, none⟩ = some (.int .i64 a0_1) := (blk_cell BK357.out 1).trans rfl; have hcz42_2 : w39.cell? ⟨gb357, 2, none⟩ = some (.slice A0_2 l0_2.length c0_2) := (blk_cell BK357.out 2).trans rfl; have hcz42_3 : w39.cell? ⟨gb357, 3, none⟩ = some (.slice A0_3 l0_3.length c0_3) := (blk_cell BK357.out 3).trans rfl; have hfz42_0 := blk_frozen BK357.out 0; have hfz42_1 := blk_frozen BK357.out 1; have hfz42_2 := blk_frozen BK357.out 2; have hfz42_3 := blk_frozen BK357.out 3) | ((with_reducible refine gate_callee (f := 41) rfl ?_); refine goesL_ (some 10) rfl rfl Try.func41 (by kernel_rfl) rfl #[.agg #[.int .i64 a0_0, .int .i64 a0_1, .slice A0_2 l0_2.length c0_2, .slice A0_3 l0_3.length c0_3]] rfl (by (try simp only [List.map_toArray, List.map_cons, List.map_nil]); first | done | rfl | (simp only [List.length_drop, List.length_take]; rfl)) ?_; (with_reducible refine (spec_GoodSegmented.calls k a0_0 a0_1 _ _ l0_2 _ _ l0_3 true _ ?side1 ?side2 ?side3 ?side4 A3.out).mono ?_); (case side1 => exact kc (Kd.C_below HR0_2.out HB.out)); (case side2 => exact HC0_2.out); (case side3 => exact kc (Kd.C_below HR0_3.out HB.out)); (case side4 => exact HC0_3.out); rintro e w43 ⟨rfl, hb⟩; refine ⟨_, rfl, ?_⟩; have n0_ := Aside0.mk (blk_below (bk BK357.out) hb); have n1_ := Aside0.mk (blk_below (bk BK358.out) hb); have n2_ := Aside0.mk (blk_below (bk BK359.out) hb); have n3_ := Aside0.mk (below_step (bl3 HB.out GE357.out GE358.out GE359.out) hb); clear BK357; clear BK358; clear BK359; clear HB; have BK357 := n0_; have BK358 := n1_; have BK359 := n2_; have HB := n3_; clear n0_ n1_ n2_ n3_; (try clear hb); (try clear hb2); (try clear hk); (try clear hi); have hnb44 := NB358_359.out; have hnc44 := NB359_358.out; have hcz45_0 : w43.cell? ⟨gb358, 0, none⟩ = some (.string a1_0) := (blk_cell BK358.out 0).trans rfl; have hcz45_1 : w43.cell? ⟨gb358, 1, none⟩ = some (.string a1_1) := (blk_cell BK358.out 1).trans rfl; have hfz45_0 := blk_frozen BK358.out 0; have hfz45_1 := blk_frozen BK358.out 1) | (go_at_call 55; (with_reducible refine (spec_l12Entry.calls a1_0 a1_1 false _ A5.out).mono ?_); rintro e w46 ⟨rfl, hb⟩; have n0_ := Aside0.mk (blk_below (bk BK357.out) hb); have n1_ := Aside0.mk (blk_below (bk BK358.out) hb); have n2_ := Aside0.mk (blk_below (bk BK359.out) hb); have n3_ := Aside0.mk (below_step (bl3 HB.out GE357.out GE358.out GE359.out) hb); clear BK357; clear BK358; clear BK359; clear HB; have BK357 := n0_; have BK358 := n1_; have BK359 := n2_; have HB := n3_; clear n0_ n1_ n2_ n3_; (try clear hb); (try clear hb2); (try clear hk); (try clear hi); have hcz47_0 : w46.cell? ⟨gb359, 0, none⟩ = some (.int .i64 0) := (blk_cell BK359.out 0).trans rfl; have hcz47_1 : w46.cell? ⟨gb359, 1, none⟩ = some (.int .i64 0) := (blk_cell BK359.out 1).trans rfl; have hcz47_2 : w46.cell? ⟨gb359, 2, none⟩ = some (.slice none 0 0) := (blk_cell BK359.out 2).trans rfl; have hcz47_3 : w46.cell? ⟨gb359, 3, none⟩ = some (.slice none 0 0) := (blk_cell BK359.out 3).trans rfl; have hfz47_0 := blk_frozen BK359.out 0; have hfz47_1 := blk_frozen BK359.out 1; have hfz47_2 := blk_frozen BK359.out 2; have hfz47_3 := blk_frozen BK359.out 3))
   refine bodyPost_ret (results_ctt rfl _ _ gb359 28 #[.int .i64 0, .int .i64 0, .slice none 0 0, .slice none 0 0] (0, 0) _ rfl (by (with_reducible repeat (first | refine blk_drewN ?_ _ | refine blk_drew ?_ | refine blk_alloc ?_ _)); refine blk_put (cs := #[.int .i64 0, .int .i64 0, .slice none 0 0, .slice none 0 0]) ?_ 3 _ rfl; (with_reducible repeat (first | refine blk_drewN ?_ _ | refine blk_drew ?_ | refine blk_alloc ?_ _)); refine blk_put (cs := #[.int .i64 0, .int .i64 0, .slice none 0 0, .slice none 0 0]) ?_ 2 _ rfl; (with_reducible repeat (first | refine blk_drewN ?_ _ | refine blk_drew ?_ | refine blk_alloc ?_ _)); refine blk_put (cs := #[.int .i64 0, .int .i64 0, .slice none 0 0, .slice none 0 0]) ?_ 1 _ rfl; (with_reducible repeat (first | refine blk_drewN ?_ _ | refine blk_drew ?_ | refine blk_alloc ?_ _)); refine blk_put (cs := #[.int .i64 0, .int .i64 0, .slice none 0 0, .slice none 0 0]) ?_ 0 _ rfl; exact bk BK359.out) Try.underlying28 rfl (by kernel_rfl)) rfl ?_
   exact ⟨_, _, _, by first | rfl | (simp [errW_none, errW_some] <;> rfl) | (simp [*, errW_none, errW_some] <;> rfl), by first | exact Kd.R_nil _ _ _ _ _ | exact Kd.N_nil _ _ _ _ _ | exact Kd.V_nil _ _ _ _ _ | exact Kd.Q_nil _ _ _ _ _ | exact Kd.S_nil _ _ _ _ _, by first | exact Kd.R_nil _ _ _ _ _ | exact Kd.N_nil _ _ _ _ _ | exact Kd.V_nil _ _ _ _ _ | exact Kd.Q_nil _ _ _ _ _ | exact Kd.S_nil _ _ _ _ _, by first | exact Kd.R_nil _ _ _ _ _ | exact Kd.N_nil _ _ _ _ _ | exact Kd.V_nil _ _ _ _ _ | exact Kd.Q_nil _ _ _ _ _ | exact Kd.S_nil _ _ _ _ _, bl3 HB.out GE357.out GE358.out GE359.out⟩
 ·replace c4 := Bool.eq_false_iff.mpr c4
  subst c4
  have H1 : (some (0, 0, ([] : List (S45)), ([] : List (S45)), ([] : List (S45)), false)) = some (r1, r2, r3, r4, r5, r6) := by rw [if_neg (show ¬ (false = true) by decide)] at H; exact H
  clear H
  have H := H1
  clear H1
  simp only [Option.some.injEq, Prod.mk.injEq] at H
  obtain ⟨rfl, rfl, rfl, rfl, rfl, rfl⟩ := H
  go_enter Try.func25, Try.ntmps25
  go_wp2_with (first | ((with_reducible refine gate_dst (N := 2) rfl ?_); refine box_event ?hg (N := 2) ?hd (cs := #[.int .i64 a0_0, .int .i64 a0_1, .slice A0_2 l0_2.length c0_2, .slice A0_3 l0_3.length c0_3]) (t := 28) ?hr ?_; (case hd => rfl); (case hg => rfl); (case hr => first | (go_simp; done) | (go_simp; rfl)); intro gb357 hg w48 hbox hb; have n0_ := Aside0.mk (below_step (bl HB.out) hb); have n1_ := Aside0.mk (hbox); have n2_ := Aside0.mk ((by rw [hg]; exact (below_size (bl HB.out)) : w.heap.size ≤ gb357)); have n3_ := Aside0.mk ((by rw [hg]; exact (below_size (bl HB.out)) : w.heap.size ≤ gb357)); clear HB; have HB := n0_; have BK357 := n1_; have GW357 := n2_; have GE357 := n3_; clear n0_ n1_ n2_ n3_; clear hb hbox hg) | ((with_reducible refine gate_dst (N := 3) rfl ?_); refine box_event ?hg (N := 3) ?hd (cs := #[.string a1_0, .string a1_1]) (t := 45) ?hr ?_; (case hd => rfl); (case hg => rfl); (case hr => first | (go_simp; done) | (go_simp; rfl)); intro gb358 hg w49 hbox hb; have n0_ := Aside0.mk (blk_below (bk BK357.out) hb); have n1_ := Aside0.mk (below_step (bl1 HB.out GE357.out) hb); have n2_ := Aside0.mk (hbox); have n3_ := Aside0.mk ((by rw [hg]; exact (below_size (bl1 HB.out GE357.out)) : w.heap.size ≤ gb358)); have n4_ := Aside0.mk ((by rw [hg]; exact (below_size (bl1 HB.out GE357.out)) : w.heap.size ≤ gb358)); have n5_ := Aside0.mk ((by rw [hg]; exact Nat.ne_of_lt (blk_lt (bk BK357.out)) : gb357 ≠ gb358)); have n6_ := Aside0.mk ((by rw [hg]; exact Nat.ne_of_gt (blk_lt (bk BK357.out)) : gb358 ≠ gb357)); clear BK357; clear HB; have BK357 := n0_; have HB := n1_; have BK358 := n2_; have GW358 := n3_; have GE358 := n4_; have NB357_358 := n5_; have NB358_357 := n6_; clear n0_ n1_ n2_ n3_ n4_ n5_ n6_; clear hb hbox hg) | ((with_reducible refine gate_dst (N := 4) rfl ?_); refine box_event ?hg (N := 4) ?hd (cs := #[.int .i64 0, .int .i64 0, .slice none 0 0, .slice none 0 0]) (t := 28) ?hr ?_; (case hd => rfl); (case hg => rfl); (case hr => first | (go_simp; done) | (go_simp; rfl)); intro gb359 hg w50 hbox hb; have n0_ := Aside0.mk (blk_below (bk BK357.out) hb); have n1_ := Aside0.mk (blk_below (bk BK358.out) hb); have n2_ := Aside0.mk (below_step (bl2 HB.out GE357.out GE358.out) hb); have n3_ := Aside0.mk (hbox); have n4_ := Aside0.mk ((by rw [hg]; exact (below_size (bl2 HB.out GE357.out GE358.out)) : w.heap.size ≤ gb359)); have n5_ := Aside0.mk ((by rw [hg]; exact (below_size (bl2 HB.out GE357.out GE358.out)) : w.heap.size ≤ gb359)); have n6_ := Aside0.mk ((by rw [hg]; exact Nat.ne_of_lt (blk_lt (bk BK357.out)) : gb357 ≠ gb359)); have n7_ := Aside0.mk ((by rw [hg]; exact Nat.ne_of_gt (blk_lt (bk BK357.out)) : gb359 ≠ gb357)); have n8_ := Aside0.mk ((by rw [hg]; exact Nat.ne_of_lt (blk_lt (bk BK358.out)) : gb358 ≠ gb359)); have n9_ := Aside0.mk ((by rw [hg]; exact Nat.ne_of_gt (blk_lt (bk BK358.out)) : gb359 ≠ gb358)); clear BK357; clear BK358; clear HB; have BK357 := n0_; have BK358 := n1_; have HB := n2_; have BK359 := n3_; have GW359 := n4_; have GE359 := n5_; have NB357_359 := n6_; have NB359_357 := n7_; have NB358_359 := n8_; have NB359_358 := n9_; clear n0_ n1_ n2_ n3_ n4_ n5_ n6_ n7_ n8_ n9_; clear hb hbox hg; have hnb51 := NB357_358.out; have hnc51 := NB358_357.out; have hnb52 := NB357_359.out; have hnc52 := NB359_357.out; have hcz53_0 : w50.cell? ⟨gb357, 0, none⟩ = some (.int .i64 a0_0) := (blk_cell BK357.out 0).trans rfl; have hcz53_1 : w50.cell? ⟨gb357, 1, none⟩ = some (.int .i64 a0_1) := (blk_cell BK357.out 1).trans rfl; have hcz53_2 : w50.cell? ⟨gb357, 2, none⟩ = some (.slice A0_2 l0_2.length c0_2) := (blk_cell BK357.out 2).trans rfl; have hcz53_3 : w50.cell? ⟨gb357, 3, none⟩ = some (.slice A0_3 l0_3.length c0_3) := (blk_cell BK357.out 3).trans rfl; have hfz53_0 := blk_frozen BK357.out 0; have hfz53_1 := blk_frozen BK357.out 1; have hfz53_2 := blk_frozen BK357.out 2; have hfz53_3 := blk_frozen BK357.out 3) | ((with_reducible refine gate_callee (f := 41) rfl ?_); refine goesL_ (some 10) rfl rfl Try.func41 (by kernel_rfl) rfl #[.agg #[.int .i64 a0_0, .int .i64 a0_1, .slice A0_2 l0_2.length c0_2, .slice A0_3 l0_3.length c0_3]] rfl (by (try simp only [List.map_toArray, List.map_cons, List.map_nil]); first | done | rfl | (simp only [List.length_drop, List.length_take]; rfl)) ?_; (with_reducible refine (spec_GoodSegmented.calls k a0_0 a0_1 _ _ l0_2 _ _ l0_3 false _ ?side1 ?side2 ?side3 ?side4 A3.out).mono ?_); (case side1 => exact kc (Kd.C_below HR0_2.out HB.out)); (case side2 => exact HC0_2.out); (case side3 => exact kc (Kd.C_below HR0_3.out HB.out)); (case side4 => exact HC0_3.out); rintro e w54 ⟨rfl, hb⟩; refine ⟨_, rfl, ?_⟩; have n0_ := Aside0.mk (blk_below (bk BK357.out) hb); have n1_ := Aside0.mk (blk_below (bk BK358.out) hb); have n2_ := Aside0.mk (blk_below (bk BK359.out) hb); have n3_ := Aside0.mk (below_step (bl3 HB.out GE357.out GE358.out GE359.out) hb); clear BK357; clear BK358; clear BK359; clear HB; have BK357 := n0_; have BK358 := n1_; have BK359 := n2_; have HB := n3_; clear n0_ n1_ n2_ n3_; (try clear hb); (try clear hb2); (try clear hk); (try clear hi); have hnb55 := NB359_358.out; have hnc55 := NB358_359.out; have hcz56_0 : w54.cell? ⟨gb359, 0, none⟩ = some (.int .i64 0) := (blk_cell BK359.out 0).trans rfl; have hcz56_1 : w54.cell? ⟨gb359, 1, none⟩ = some (.int .i64 0) := (blk_cell BK359.out 1).trans rfl; have hcz56_2 : w54.cell? ⟨gb359, 2, none⟩ = some (.slice none 0 0) := (blk_cell BK359.out 2).trans rfl; have hcz56_3 : w54.cell? ⟨gb359, 3, none⟩ = some (.slice none 0 0) := (blk_cell BK359.out 3).trans rfl; have hfz56_0 := blk_frozen BK359.out 0; have hfz56_1 := blk_frozen BK359.out 1; have hfz56_2 := blk_frozen BK359.out 2; have hfz56_3 := blk_frozen BK359.out 3))
  refine bodyPost_ret (results_ctt rfl _ _ gb359 28 #[.int .i64 0, .int .i64 0, .slice none 0 0, .slice none 0 0] (0, 0) _ rfl (by (with_reducible repeat (first | refine blk_drewN ?_ _ | refine blk_drew ?_ | refine blk_alloc ?_ _)); refine blk_put (cs := #[.int .i64 0, .int .i64 0, .slice none 0 0, .slice none 0 0]) ?_ 3 _ rfl; (with_reducible repeat (first | refine blk_drewN ?_ _ | refine blk_drew ?_ | refine blk_alloc ?_ _)); refine blk_put (cs := #[.int .i64 0, .int .i64 0, .slice none 0 0, .slice none 0 0]) ?_ 2 _ rfl; (with_reducible repeat (first | refine blk_drewN ?_ _ | refine blk_drew ?_ | refine blk_alloc ?_ _)); refine blk_put (cs := #[.int .i64 0, .int .i64 0, .slice none 0 0, .slice none 0 0]) ?_ 1 _ rfl; (with_reducible repeat (first | refine blk_drewN ?_ _ | refine blk_drew ?_ | refine blk_alloc ?_ _)); refine blk_put (cs := #[.int .i64 0, .int .i64 0, .slice none 0 0, .slice none 0 0]) ?_ 0 _ rfl; exact bk BK359.out) Try.underlying28 rfl (by kernel_rfl)) rfl ?_
  exact ⟨_, _, _, by first | rfl | (simp [errW_none, errW_some] <;> rfl) | (simp [*, errW_none, errW_some] <;> rfl), by first | exact Kd.R_nil _ _ _ _ _ | exact Kd.N_nil _ _ _ _ _ | exact Kd.V_nil _ _ _ _ _ | exact Kd.Q_nil _ _ _ _ _ | exact Kd.S_nil _ _ _ _ _, by first | exact Kd.R_nil _ _ _ _ _ | exact Kd.N_nil _ _ _ _ _ | exact Kd.V_nil _ _ _ _ _ | exact Kd.Q_nil _ _ _ _ _ | exact Kd.S_nil _ _ _ _ _, by first | exact Kd.R_nil _ _ _ _ _ | exact Kd.N_nil _ _ _ _ _ | exact Kd.V_nil _ _ _ _ _ | exact Kd.Q_nil _ _ _ _ _ | exact Kd.S_nil _ _ _ _ _, bl3 HB.out GE357.out GE358.out GE359.out⟩

end Go.Proofs.Ytfopmaiednikhaa.PFnExactPutEntry
