-- written by a program of this session (wip/tool)
import Derived.Test.YtfopmaiednikhaaPFnExactGetEntryx0
import Derived.Test.YtfopmaiednikhaaPFnExactGetEntryx1
import Derived.Test.YtfopmaiednikhaaPFnExactGetEntryx2
import Derived.Test.YtfopmaiednikhaaPFnExactGetEntryx3
import Derived.Test.YtfopmaiednikhaaPFnExactGetEntryx7
import Derived.Test.YtfopmaiednikhaaPFnExactGetEntryx9
import Derived.Test.YtfopmaiednikhaaVOwn0
import Derived.Test.YtfopmaiednikhaaVOwnOpen
import Derived.WalkKit
import Derived.BigCall
import Derived.Lib.SliceRun
import Derived.Deep.RegionLaw
import Derived.Maps.OwnSet
import Derived.Maps.OwnOps
import Derived.Maps.Views
import Derived.Test.YtfopmaiednikhaaVWZeros
import Derived.Test.YtfopmaiednikhaaVWArr
import Derived.Test.YtfopmaiednikhaaVOwnShort
namespace Go.Proofs.Ytfopmaiednikhaa.PFnExactGetEntry
open Go.RowKit Go.Proofs.YtfopmaiednikhaaW.PrintWords Go.Proofs.YtfopmaiednikhaaW.PrintLast Go.Proofs.YtfopmaiednikhaaW.PrintMore Go.Shelf Go.Proofs.YtfopmaiednikhaaOwn
attribute [local go_sem] max2_int min2_int max_two min_two max_three min_three max_four min_four   -- for this text's walks alone
set_option linter.unusedVariables false
set_option linter.unusedSimpArgs false

/-! ### laws_FnExactGetEntry: function 6 -/
mutual
def laws_FnExactGetEntry.j0 : Nat → ByteArray → ByteArray → Bool → ByteArray → Bool → Bool → Int → Int → List (S49) → List (S49) → Int → Int → List (S45) → List (S45) → Int → Int → List (S45) → List (S45) → Int → Int → List (S45) → List (S45) → Option (Bool)
 | 0, _, _, _, _, _, _, _, _, _, _, _, _, _, _, _, _, _, _, _, _, _, _ => none
 | k + 1, x1, x7, x8, x11, x12, x57, x362000, x362001, x362002, x362003, x382000, x382001, x382002, x382003, x391000, x391001, x391002, x391003, x402000, x402001, x402002, x402003 => if x57 = true then (none) else ((laws_toSegmented.f k x362000 x362001 x362002 x362003).bind fun bt403 => ((laws_eqSegmented.f k x391000 x391001 x391002 x391003 bt403.1 bt403.2.1 bt403.2.2.1 bt403.2.2.2).bind fun t411 => (if t411 = true then ((laws_markSegmented.f k x391000 x391001 x391002 x391003 1).bind fun bt412 => (if bt412.1 < 0 then (laws_FnExactGetEntry.j1 k x1 x7 x8 true x362000 x362001 x362002 x362003 x382000 x382001 x382002 x382003 x402000 x402001 x402002 x402003) else ((laws_eqSegmented.f k x402000 x402001 x402002 x402003 x382000 x382001 x382002 x382003).bind fun t415 => (if t415 = true then (if x11.toList = x7.toList then (laws_FnExactGetEntry.j1 k x1 x7 x8 (x12 != x8) x362000 x362001 x362002 x362003 x382000 x382001 x382002 x382003 x402000 x402001 x402002 x402003) else (laws_FnExactGetEntry.j1 k x1 x7 x8 true x362000 x362001 x362002 x362003 x382000 x382001 x382002 x382003 x402000 x402001 x402002 x402003)) else (laws_FnExactGetEntry.j1 k x1 x7 x8 true x362000 x362001 x362002 x362003 x382000 x382001 x382002 x382003 x402000 x402001 x402002 x402003))))) else (none))))
def laws_FnExactGetEntry.j1 : Nat → ByteArray → ByteArray → Bool → Bool → Int → Int → List (S49) → List (S49) → Int → Int → List (S45) → List (S45) → Int → Int → List (S45) → List (S45) → Option (Bool)
 | 0, _, _, _, _, _, _, _, _, _, _, _, _, _, _, _, _ => none
 | k + 1, x1, x7, x8, x83, x362000, x362001, x362002, x362003, x382000, x382001, x382002, x382003, x402000, x402001, x402002, x402003 => if x83 = true then (none) else ((laws_markSegmented.f k x402000 x402001 x402002 x402003 1).bind fun bt416 => ((laws_heldSegmented.f k x402000 x402001 bt416.2.1 bt416.2.2 1).bind fun t419 => (if t419 < 0 then (none) else (if t419 = bt416.1 then ((laws_toSegmented.f k x362000 x362001 x362002 x362003).bind fun bt420 => ((impl_GetEntry.f k bt420.1 bt420.2.1 bt420.2.2.1 bt420.2.2.2 x1).bind fun bt428 => ((laws_eqSegmented.f k bt428.1 bt428.2.1 bt428.2.2.1 bt428.2.2.2.1 x382000 x382001 x382002 x382003).bind fun t439 => (if t439 = true then (if bt428.2.2.2.2.1.toList = x7.toList then (if (bt428.2.2.2.2.2 != x8) = true then (none) else ((laws_heldSegmented.f k x402000 x402001 bt416.2.1 bt416.2.2 1).bind fun t440 => (if t440 < 0 then (none) else (if t440 = bt416.1 then (some true) else (none))))) else (none)) else (none))))) else (none)))))
end
def laws_FnExactGetEntry.f (k : Nat) (a0_0 : Int) (a0_1 : Int) (l0_2 : List (S49)) (l0_3 : List (S49)) (a1 : ByteArray) : Option (Bool) := if (a1.size : Int) > 1048576 then (some true) else ((laws_szSegmented.f k a0_0 a0_1 l0_2 l0_3 1048576).bind fun t362 => (if t362 < 0 then (some true) else ((laws_toSegmented.f k a0_0 a0_1 l0_2 l0_3).bind fun bt363 => ((spec_GetEntry.f k bt363.1 bt363.2.1 bt363.2.2.1 bt363.2.2.2 a1).bind fun bt371 => ((laws_toSegmented.f k a0_0 a0_1 l0_2 l0_3).bind fun bt382 => ((impl_GetEntry.f k bt382.1 bt382.2.1 bt382.2.2.1 bt382.2.2.2 a1).bind fun bt391 => ((laws_eqSegmented.f k bt391.1 bt391.2.1 bt391.2.2.1 bt391.2.2.2.1 bt371.1 bt371.2.1 bt371.2.2.1 bt371.2.2.2.1).bind fun t402 => (if t402 = true then (if bt391.2.2.2.2.1.toList = bt371.2.2.2.2.1.toList then (laws_FnExactGetEntry.j0 k a1 bt371.2.2.2.2.1 bt371.2.2.2.2.2 bt391.2.2.2.2.1 bt391.2.2.2.2.2 (bt391.2.2.2.2.2 != bt371.2.2.2.2.2) a0_0 a0_1 l0_2 l0_3 bt371.1 bt371.2.1 bt371.2.2.1 bt371.2.2.2.1 bt382.1 bt382.2.1 bt382.2.2.1 bt382.2.2.2 bt391.1 bt391.2.1 bt391.2.2.1 bt391.2.2.2.1) else (laws_FnExactGetEntry.j0 k a1 bt371.2.2.2.2.1 bt371.2.2.2.2.2 bt391.2.2.2.2.1 bt391.2.2.2.2.2 true a0_0 a0_1 l0_2 l0_3 bt371.1 bt371.2.1 bt371.2.2.1 bt371.2.2.2.1 bt382.1 bt382.2.1 bt382.2.2.1 bt382.2.2.2 bt391.1 bt391.2.1 bt391.2.2.1 bt391.2.2.2.1)) else (laws_FnExactGetEntry.j0 k a1 bt371.2.2.2.2.1 bt371.2.2.2.2.2 bt391.2.2.2.2.1 bt391.2.2.2.2.2 true a0_0 a0_1 l0_2 l0_3 bt371.1 bt371.2.1 bt371.2.2.1 bt371.2.2.2.1 bt382.1 bt382.2.1 bt382.2.2.1 bt382.2.2.2 bt391.1 bt391.2.1 bt391.2.2.1 bt391.2.2.2.1)))))))))
theorem laws_FnExactGetEntry.mono_l : ∀ k, (∀ y0 y1 y2 y3 y4 y5 y6 y7 y8 y9 y10 y11 y12 y13 y14 y15 y16 y17 y18 y19 y20 y21, LeO (laws_FnExactGetEntry.j0 k y0 y1 y2 y3 y4 y5 y6 y7 y8 y9 y10 y11 y12 y13 y14 y15 y16 y17 y18 y19 y20 y21) (laws_FnExactGetEntry.j0 (k + 1) y0 y1 y2 y3 y4 y5 y6 y7 y8 y9 y10 y11 y12 y13 y14 y15 y16 y17 y18 y19 y20 y21)) ∧ (∀ y0 y1 y2 y3 y4 y5 y6 y7 y8 y9 y10 y11 y12 y13 y14 y15, LeO (laws_FnExactGetEntry.j1 k y0 y1 y2 y3 y4 y5 y6 y7 y8 y9 y10 y11 y12 y13 y14 y15) (laws_FnExactGetEntry.j1 (k + 1) y0 y1 y2 y3 y4 y5 y6 y7 y8 y9 y10 y11 y12 y13 y14 y15))
 | 0 => ⟨fun _ _ _ _ _ _ _ _ _ _ _ _ _ _ _ _ _ _ _ _ _ _ r h => by simp [laws_FnExactGetEntry.j0] at h, fun _ _ _ _ _ _ _ _ _ _ _ _ _ _ _ _ r h => by simp [laws_FnExactGetEntry.j1] at h⟩
 | k + 1 => by
  obtain ⟨ih0, ih1⟩ := laws_FnExactGetEntry.mono_l k
  refine ⟨?_, ?_⟩
  ·intro y0 y1 y2 y3 y4 y5 y6 y7 y8 y9 y10 y11 y12 y13 y14 y15 y16 y17 y18 y19 y20 y21
   unfold laws_FnExactGetEntry.j0
   repeat' first
   | (with_reducible exact ih0 _ _ _ _ _ _ _ _ _ _ _ _ _ _ _ _ _ _ _ _ _ _)
   | (with_reducible exact ih1 _ _ _ _ _ _ _ _ _ _ _ _ _ _ _ _)
   | (with_reducible exact impl_GetEntry.mono _ _ _ _ _ _)
   | (with_reducible exact laws_eqSegmented.mono _ _ _ _ _ _ _ _ _)
   | (with_reducible exact laws_heldSegmented.mono _ _ _ _ _ _)
   | (with_reducible exact laws_markSegmented.mono _ _ _ _ _ _)
   | (with_reducible exact laws_szSegmented.mono _ _ _ _ _ _)
   | (with_reducible exact laws_toSegmented.mono _ _ _ _ _)
   | (with_reducible exact spec_GetEntry.mono _ _ _ _ _ _)
   | (with_reducible exact LeO.refl _)
   | (with_reducible exact LeO.none _)
   | (with_reducible refine LeO.ite ?_ ?_)
   | (with_reducible refine LeO.bind ?_ (fun _ => ?_))
   | exact ih0 _ _ _ _ _ _ _ _ _ _ _ _ _ _ _ _ _ _ _ _ _ _
   | exact ih1 _ _ _ _ _ _ _ _ _ _ _ _ _ _ _ _
   | exact impl_GetEntry.mono _ _ _ _ _ _
   | exact laws_eqSegmented.mono _ _ _ _ _ _ _ _ _
   | exact laws_heldSegmented.mono _ _ _ _ _ _
   | exact laws_markSegmented.mono _ _ _ _ _ _
   | exact laws_szSegmented.mono _ _ _ _ _ _
   | exact laws_toSegmented.mono _ _ _ _ _
   | exact spec_GetEntry.mono _ _ _ _ _ _
   | exact LeO.none _
   | refine LeO.ite ?_ ?_
   | refine LeO.bind ?_ (fun _ => ?_)
  ·intro y0 y1 y2 y3 y4 y5 y6 y7 y8 y9 y10 y11 y12 y13 y14 y15
   unfold laws_FnExactGetEntry.j1
   repeat' first
   | (with_reducible exact ih0 _ _ _ _ _ _ _ _ _ _ _ _ _ _ _ _ _ _ _ _ _ _)
   | (with_reducible exact ih1 _ _ _ _ _ _ _ _ _ _ _ _ _ _ _ _)
   | (with_reducible exact impl_GetEntry.mono _ _ _ _ _ _)
   | (with_reducible exact laws_eqSegmented.mono _ _ _ _ _ _ _ _ _)
   | (with_reducible exact laws_heldSegmented.mono _ _ _ _ _ _)
   | (with_reducible exact laws_markSegmented.mono _ _ _ _ _ _)
   | (with_reducible exact laws_szSegmented.mono _ _ _ _ _ _)
   | (with_reducible exact laws_toSegmented.mono _ _ _ _ _)
   | (with_reducible exact spec_GetEntry.mono _ _ _ _ _ _)
   | (with_reducible exact LeO.refl _)
   | (with_reducible exact LeO.none _)
   | (with_reducible refine LeO.ite ?_ ?_)
   | (with_reducible refine LeO.bind ?_ (fun _ => ?_))
   | exact ih0 _ _ _ _ _ _ _ _ _ _ _ _ _ _ _ _ _ _ _ _ _ _
   | exact ih1 _ _ _ _ _ _ _ _ _ _ _ _ _ _ _ _
   | exact impl_GetEntry.mono _ _ _ _ _ _
   | exact laws_eqSegmented.mono _ _ _ _ _ _ _ _ _
   | exact laws_heldSegmented.mono _ _ _ _ _ _
   | exact laws_markSegmented.mono _ _ _ _ _ _
   | exact laws_szSegmented.mono _ _ _ _ _ _
   | exact laws_toSegmented.mono _ _ _ _ _
   | exact spec_GetEntry.mono _ _ _ _ _ _
   | exact LeO.none _
   | refine LeO.ite ?_ ?_
   | refine LeO.bind ?_ (fun _ => ?_)
theorem laws_FnExactGetEntry.mono : ∀ a0 a1 a2 a3 a4 k, LeO (laws_FnExactGetEntry.f k a0 a1 a2 a3 a4) (laws_FnExactGetEntry.f (k + 1) a0 a1 a2 a3 a4) := by
 intro a0 a1 a2 a3 a4 k
 obtain ⟨ih0, ih1⟩ := laws_FnExactGetEntry.mono_l k
 unfold laws_FnExactGetEntry.f
 repeat' first
   | (with_reducible exact ih0 _ _ _ _ _ _ _ _ _ _ _ _ _ _ _ _ _ _ _ _ _ _)
   | (with_reducible exact ih1 _ _ _ _ _ _ _ _ _ _ _ _ _ _ _ _)
   | (with_reducible exact impl_GetEntry.mono _ _ _ _ _ _)
   | (with_reducible exact laws_eqSegmented.mono _ _ _ _ _ _ _ _ _)
   | (with_reducible exact laws_heldSegmented.mono _ _ _ _ _ _)
   | (with_reducible exact laws_markSegmented.mono _ _ _ _ _ _)
   | (with_reducible exact laws_szSegmented.mono _ _ _ _ _ _)
   | (with_reducible exact laws_toSegmented.mono _ _ _ _ _)
   | (with_reducible exact spec_GetEntry.mono _ _ _ _ _ _)
   | (with_reducible exact LeO.refl _)
   | (with_reducible exact LeO.none _)
   | (with_reducible refine LeO.ite ?_ ?_)
   | (with_reducible refine LeO.bind ?_ (fun _ => ?_))
   | exact ih0 _ _ _ _ _ _ _ _ _ _ _ _ _ _ _ _ _ _ _ _ _ _
   | exact ih1 _ _ _ _ _ _ _ _ _ _ _ _ _ _ _ _
   | exact impl_GetEntry.mono _ _ _ _ _ _
   | exact laws_eqSegmented.mono _ _ _ _ _ _ _ _ _
   | exact laws_heldSegmented.mono _ _ _ _ _ _
   | exact laws_markSegmented.mono _ _ _ _ _ _
   | exact laws_szSegmented.mono _ _ _ _ _ _
   | exact laws_toSegmented.mono _ _ _ _ _
   | exact spec_GetEntry.mono _ _ _ _ _ _
   | exact LeO.none _
   | refine LeO.ite ?_ ?_
   | refine LeO.bind ?_ (fun _ => ?_)
set_option maxHeartbeats 8000000 in
set_option maxRecDepth 100000 in
theorem laws_FnExactGetEntry.calls (k : Nat) (a0_0 : Int) (a0_1 : Int) (A0_2 : Option Addr) (c0_2 : Nat) (l0_2 : List (S49)) (A0_3 : Option Addr) (c0_3 : Nat) (l0_3 : List (S49)) (a1 : ByteArray) (r : Bool) (w : World) (hr0_2 : Kd.C k49 w A0_2 l0_2.length l0_2) (hc0_2 : l0_2.length ≤ c0_2) (hr0_3 : Kd.C k49 w A0_3 l0_3.length l0_3) (hc0_3 : l0_3.length ≤ c0_3) (h : laws_FnExactGetEntry.f k a0_0 a0_1 l0_2 l0_3 a1 = some r) :
  Calls Try.prog 6 #[.agg #[.int .i64 a0_0, .int .i64 a0_1, .slice A0_2 l0_2.length c0_2, .slice A0_3 l0_3.length c0_3], .string a1] w fun e w' => e = .returned (.bool r) ∧ Below w.heap.size w w' := by
 have hu24 := Try.underlying24
 have hu28 := Try.underlying28
 have HR0_2 := Aside0.mk hr0_2
 have HC0_2 := Aside0.mk hc0_2
 clear hr0_2 hc0_2
 have HR0_3 := Aside0.mk hr0_3
 have HC0_3 := Aside0.mk hc0_3
 clear hr0_3 hc0_3
 have HB := Aside0.mk (Below.refl w.heap.size w)
 have H : (if (a1.size : Int) > 1048576 then (some true) else ((laws_szSegmented.f k a0_0 a0_1 l0_2 l0_3 1048576).bind fun t362 => (if t362 < 0 then (some true) else ((laws_toSegmented.f k a0_0 a0_1 l0_2 l0_3).bind fun bt363 => ((spec_GetEntry.f k bt363.1 bt363.2.1 bt363.2.2.1 bt363.2.2.2 a1).bind fun bt371 => ((laws_toSegmented.f k a0_0 a0_1 l0_2 l0_3).bind fun bt382 => ((impl_GetEntry.f k bt382.1 bt382.2.1 bt382.2.2.1 bt382.2.2.2 a1).bind fun bt391 => ((laws_eqSegmented.f k bt391.1 bt391.2.1 bt391.2.2.1 bt391.2.2.2.1 bt371.1 bt371.2.1 bt371.2.2.1 bt371.2.2.2.1).bind fun t402 => (if t402 = true then (if bt391.2.2.2.2.1.toList = bt371.2.2.2.2.1.toList then (laws_FnExactGetEntry.j0 k a1 bt371.2.2.2.2.1 bt371.2.2.2.2.2 bt391.2.2.2.2.1 bt391.2.2.2.2.2 (bt391.2.2.2.2.2 != bt371.2.2.2.2.2) a0_0 a0_1 l0_2 l0_3 bt371.1 bt371.2.1 bt371.2.2.1 bt371.2.2.2.1 bt382.1 bt382.2.1 bt382.2.2.1 bt382.2.2.2 bt391.1 bt391.2.1 bt391.2.2.1 bt391.2.2.2.1) else (laws_FnExactGetEntry.j0 k a1 bt371.2.2.2.2.1 bt371.2.2.2.2.2 bt391.2.2.2.2.1 bt391.2.2.2.2.2 true a0_0 a0_1 l0_2 l0_3 bt371.1 bt371.2.1 bt371.2.2.1 bt371.2.2.2.1 bt382.1 bt382.2.1 bt382.2.2.1 bt382.2.2.2 bt391.1 bt391.2.1 bt391.2.2.1 bt391.2.2.2.1)) else (laws_FnExactGetEntry.j0 k a1 bt371.2.2.2.2.1 bt371.2.2.2.2.2 bt391.2.2.2.2.1 bt391.2.2.2.2.2 true a0_0 a0_1 l0_2 l0_3 bt371.1 bt371.2.1 bt371.2.2.1 bt371.2.2.2.1 bt382.1 bt382.2.1 bt382.2.2.1 bt382.2.2.2 bt391.1 bt391.2.1 bt391.2.2.1 bt391.2.2.2.1)))))))))) = some r := h
 clear h
 by_cases c3 : (a1.size : Int) > 1048576
 ·rw [if_pos c3] at H
  have c3b0 : decide (1048576 < (a1.size : Int)) = true := decide_eq_true c3
  have c3b1 : decide (1048576 < a1.size) = true := decide_eq_true (by omega)
  clear c3
  obtain rfl := Option.some.inj H
  go_enter Try.func6, Try.ntmps6
  go_wp2_with (first | ((with_reducible refine gate_dst (N := 2) rfl ?_); refine box_event ?hg (N := 2) ?hd (cs := #[.int .i64 a0_0, .int .i64 a0_1, .slice A0_2 l0_2.length c0_2, .slice A0_3 l0_3.length c0_3]) (t := 24) ?hr ?_; (case hd => rfl); (case hg => rfl); (case hr => first | (go_simp; done) | (go_simp; rfl)); intro gb361 hg w4 hbox hb; have n0_ := Aside0.mk (below_step (bl HB.out) hb); have n1_ := Aside0.mk (hbox); have n2_ := Aside0.mk ((by rw [hg]; exact (below_size (bl HB.out)) : w.heap.size ≤ gb361)); have n3_ := Aside0.mk ((by rw [hg]; exact (below_size (bl HB.out)) : w.heap.size ≤ gb361)); clear HB; have HB := n0_; have BK361 := n1_; have GW361 := n2_; have GE361 := n3_; clear n0_ n1_ n2_ n3_; clear hb hbox hg))
  go_ret
  exact ⟨by first | rfl | (simp [errW_none, errW_some] <;> rfl) | (simp [*, errW_none, errW_some] <;> rfl), bl1 HB.out GE361.out⟩
 ·rw [if_neg c3] at H
  have c3b0 : decide (1048576 < (a1.size : Int)) = false := decide_eq_false c3
  have c3b1 : decide (1048576 < a1.size) = false := decide_eq_false (by omega)
  clear c3
  replace H := Option.bind_eq_some_iff.mp H
  obtain ⟨t362, A50, H⟩ := H
  try dsimp only at H
  have A5 := Aside0.mk A50
  clear A50
  by_cases c6 : t362 < 0
  ·rw [if_pos c6] at H
   have c6b0 : decide (t362 < 0) = true := decide_eq_true c6
   clear c6
   obtain rfl := Option.some.inj H
   go_enter Try.func6, Try.ntmps6
   go_wp2_with (first | ((with_reducible refine gate_dst (N := 2) rfl ?_); refine box_event ?hg (N := 2) ?hd (cs := #[.int .i64 a0_0, .int .i64 a0_1, .slice A0_2 l0_2.length c0_2, .slice A0_3 l0_3.length c0_3]) (t := 24) ?hr ?_; (case hd => rfl); (case hg => rfl); (case hr => first | (go_simp; done) | (go_simp; rfl)); intro gb361 hg w7 hbox hb; have n0_ := Aside0.mk (below_step (bl HB.out) hb); have n1_ := Aside0.mk (hbox); have n2_ := Aside0.mk ((by rw [hg]; exact (below_size (bl HB.out)) : w.heap.size ≤ gb361)); have n3_ := Aside0.mk ((by rw [hg]; exact (below_size (bl HB.out)) : w.heap.size ≤ gb361)); clear HB; have HB := n0_; have BK361 := n1_; have GW361 := n2_; have GE361 := n3_; clear n0_ n1_ n2_ n3_; clear hb hbox hg; have hcz8_0 : w7.cell? ⟨gb361, 0, none⟩ = some (.int .i64 a0_0) := (blk_cell BK361.out 0).trans rfl; have hcz8_1 : w7.cell? ⟨gb361, 1, none⟩ = some (.int .i64 a0_1) := (blk_cell BK361.out 1).trans rfl; have hcz8_2 : w7.cell? ⟨gb361, 2, none⟩ = some (.slice A0_2 l0_2.length c0_2) := (blk_cell BK361.out 2).trans rfl; have hcz8_3 : w7.cell? ⟨gb361, 3, none⟩ = some (.slice A0_3 l0_3.length c0_3) := (blk_cell BK361.out 3).trans rfl; have hfz8_0 := blk_frozen BK361.out 0; have hfz8_1 := blk_frozen BK361.out 1; have hfz8_2 := blk_frozen BK361.out 2; have hfz8_3 := blk_frozen BK361.out 3) | ((with_reducible refine gate_callee (f := 9) rfl ?_); refine goesL_ (some 24) rfl rfl Try.func9 (by kernel_rfl) rfl #[.agg #[.int .i64 a0_0, .int .i64 a0_1, .slice A0_2 l0_2.length c0_2, .slice A0_3 l0_3.length c0_3], .int .i64 1048576] rfl (by (try simp only [List.map_toArray, List.map_cons, List.map_nil]); first | done | rfl | (simp only [List.length_drop, List.length_take]; rfl)) ?_; (with_reducible refine (laws_szSegmented.calls k a0_0 a0_1 _ _ l0_2 _ _ l0_3 1048576 t362 _ ?side1 ?side2 ?side3 ?side4 A5.out).mono ?_); (case side1 => exact kc (Kd.C_below HR0_2.out HB.out)); (case side2 => exact HC0_2.out); (case side3 => exact kc (Kd.C_below HR0_3.out HB.out)); (case side4 => exact HC0_3.out); rintro e w9 ⟨rfl, hb⟩; refine ⟨_, rfl, ?_⟩; have n0_ := Aside0.mk (blk_below (g := gb361) (o := .cells #[.int .i64 a0_0, .int .i64 a0_1, .slice A0_2 l0_2.length c0_2, .slice A0_3 l0_3.length c0_3] 24 (0, 0)) (bk BK361.out) hb); have n1_ := Aside0.mk (below_step (bl1 HB.out GE361.out) hb); clear BK361; clear HB; have BK361 := n0_; have HB := n1_; clear n0_ n1_; (try clear hb); (try clear hb2); (try clear hk); (try clear hi)))
   go_ret
   exact ⟨by first | rfl | (simp [errW_none, errW_some] <;> rfl) | (simp [*, errW_none, errW_some] <;> rfl), bl1 HB.out GE361.out⟩
  ·rw [if_neg c6] at H
   have c6b0 : decide (t362 < 0) = false := decide_eq_false c6
   clear c6
   replace H := Option.bind_eq_some_iff.mp H
   obtain ⟨⟨t363, t364, t365, t368⟩, A100, H⟩ := H
   try dsimp only at H
   have A10 := Aside0.mk A100
   clear A100
   replace H := Option.bind_eq_some_iff.mp H
   obtain ⟨⟨t371, t372, t373, t376, t379, t380⟩, A110, H⟩ := H
   try dsimp only at H
   have A11 := Aside0.mk A110
   clear A110
   replace H := Option.bind_eq_some_iff.mp H
   obtain ⟨⟨t382, t383, t384, t387⟩, A120, H⟩ := H
   try dsimp only at H
   have A12 := Aside0.mk A120
   clear A120
   replace H := Option.bind_eq_some_iff.mp H
   obtain ⟨⟨t391, t392, t393, t396, t399, t400⟩, A130, H⟩ := H
   try dsimp only at H
   have A13 := Aside0.mk A130
   clear A130
   have HC14 := Aside0.mk H
   clear H
   go_enter Try.func6, Try.ntmps6
   go_upto_region 10 with (first | ((with_reducible refine gate_dst (N := 2) rfl ?_); refine box_event ?hg (N := 2) ?hd (cs := #[.int .i64 a0_0, .int .i64 a0_1, .slice A0_2 l0_2.length c0_2, .slice A0_3 l0_3.length c0_3]) (t := 24) ?hr ?_; (case hd => rfl); (case hg => rfl); (case hr => first | (go_simp; done) | (go_simp; rfl)); intro gb361 hg w15 hbox hb; have n0_ := Aside0.mk (below_step (bl HB.out) hb); have n1_ := Aside0.mk (hbox); have n2_ := Aside0.mk ((by rw [hg]; exact (below_size (bl HB.out)) : w.heap.size ≤ gb361)); have n3_ := Aside0.mk ((by rw [hg]; exact (below_size (bl HB.out)) : w.heap.size ≤ gb361)); clear HB; have HB := n0_; have BK361 := n1_; have GW361 := n2_; have GE361 := n3_; clear n0_ n1_ n2_ n3_; clear hb hbox hg; have hcz16_0 : w15.cell? ⟨gb361, 0, none⟩ = some (.int .i64 a0_0) := (blk_cell BK361.out 0).trans rfl; have hcz16_1 : w15.cell? ⟨gb361, 1, none⟩ = some (.int .i64 a0_1) := (blk_cell BK361.out 1).trans rfl; have hcz16_2 : w15.cell? ⟨gb361, 2, none⟩ = some (.slice A0_2 l0_2.length c0_2) := (blk_cell BK361.out 2).trans rfl; have hcz16_3 : w15.cell? ⟨gb361, 3, none⟩ = some (.slice A0_3 l0_3.length c0_3) := (blk_cell BK361.out 3).trans rfl; have hfz16_0 := blk_frozen BK361.out 0; have hfz16_1 := blk_frozen BK361.out 1; have hfz16_2 := blk_frozen BK361.out 2; have hfz16_3 := blk_frozen BK361.out 3) | ((with_reducible refine gate_callee (f := 9) rfl ?_); refine goesL_ (some 24) rfl rfl Try.func9 (by kernel_rfl) rfl #[.agg #[.int .i64 a0_0, .int .i64 a0_1, .slice A0_2 l0_2.length c0_2, .slice A0_3 l0_3.length c0_3], .int .i64 1048576] rfl (by (try simp only [List.map_toArray, List.map_cons, List.map_nil]); first | done | rfl | (simp only [List.length_drop, List.length_take]; rfl)) ?_; (with_reducible refine (laws_szSegmented.calls k a0_0 a0_1 _ _ l0_2 _ _ l0_3 1048576 t362 _ ?side1 ?side2 ?side3 ?side4 A5.out).mono ?_); (case side1 => exact kc (Kd.C_below HR0_2.out HB.out)); (case side2 => exact HC0_2.out); (case side3 => exact kc (Kd.C_below HR0_3.out HB.out)); (case side4 => exact HC0_3.out); rintro e w17 ⟨rfl, hb⟩; refine ⟨_, rfl, ?_⟩; have n0_ := Aside0.mk (blk_below (g := gb361) (o := .cells #[.int .i64 a0_0, .int .i64 a0_1, .slice A0_2 l0_2.length c0_2, .slice A0_3 l0_3.length c0_3] 24 (0, 0)) (bk BK361.out) hb); have n1_ := Aside0.mk (below_step (bl1 HB.out GE361.out) hb); clear BK361; clear HB; have BK361 := n0_; have HB := n1_; clear n0_ n1_; (try clear hb); (try clear hb2); (try clear hk); (try clear hi); have hcz18_0 : w17.cell? ⟨gb361, 0, none⟩ = some (.int .i64 a0_0) := (blk_cell BK361.out 0).trans rfl; have hcz18_1 : w17.cell? ⟨gb361, 1, none⟩ = some (.int .i64 a0_1) := (blk_cell BK361.out 1).trans rfl; have hcz18_2 : w17.cell? ⟨gb361, 2, none⟩ = some (.slice A0_2 l0_2.length c0_2) := (blk_cell BK361.out 2).trans rfl; have hcz18_3 : w17.cell? ⟨gb361, 3, none⟩ = some (.slice A0_3 l0_3.length c0_3) := (blk_cell BK361.out 3).trans rfl; have hfz18_0 := blk_frozen BK361.out 0; have hfz18_1 := blk_frozen BK361.out 1; have hfz18_2 := blk_frozen BK361.out 2; have hfz18_3 := blk_frozen BK361.out 3) | ((with_reducible refine gate_callee (f := 11) rfl ?_); refine goesL_ (some 29) rfl rfl Try.func11 (by kernel_rfl) rfl #[.agg #[.int .i64 a0_0, .int .i64 a0_1, .slice A0_2 l0_2.length c0_2, .slice A0_3 l0_3.length c0_3]] rfl (by (try simp only [List.map_toArray, List.map_cons, List.map_nil]); first | done | rfl | (simp only [List.length_drop, List.length_take]; rfl)) ?_; (with_reducible refine (laws_toSegmented.calls k a0_0 a0_1 _ _ l0_2 _ _ l0_3 t363 t364 t365 t368 _ ?side1 ?side2 ?side3 ?side4 A10.out).mono ?_); (case side1 => exact kc (Kd.C_below HR0_2.out HB.out)); (case side2 => exact HC0_2.out); (case side3 => exact kc (Kd.C_below HR0_3.out HB.out)); (case side4 => exact HC0_3.out); rintro e w19 ⟨v366, v369, rfl, ho0, ho1, hb⟩; refine ⟨_, rfl, ?_⟩; have n0_ := Aside0.mk (Kd.R_lower ho0 (below_size (bl1 HB.out GE361.out))); have n1_ := Aside0.mk (Kd.R_lower ho1 (below_size (bl1 HB.out GE361.out))); have n2_ := Aside0.mk (blk_below (g := gb361) (o := .cells #[.int .i64 a0_0, .int .i64 a0_1, .slice A0_2 l0_2.length c0_2, .slice A0_3 l0_3.length c0_3] 24 (0, 0)) (bk BK361.out) hb); have n3_ := Aside0.mk (below_step (bl1 HB.out GE361.out) hb); clear BK361; clear HB; have HO367 := n0_; have HO370 := n1_; have BK361 := n2_; have HB := n3_; clear n0_ n1_ n2_ n3_; (try clear hb); (try clear hb2); (try clear hk); (try clear hi); (try clear ho0); (try clear ho1); obtain ⟨Ao20, co20, eo20⟩ := Kd.R_slice HO367.out; subst eo20; obtain ⟨Ao21, co21, eo21⟩ := Kd.R_slice HO370.out; subst eo21) | ((with_reducible refine gate_callee (f := 30) rfl ?_); refine goesL_ (some 31) rfl rfl Try.func30 (by kernel_rfl) rfl #[.agg #[.int .i64 t363, .int .i64 t364, .slice Ao20 t365.length co20, .slice Ao21 t368.length co21], .string a1] rfl (by (try simp only [List.map_toArray, List.map_cons, List.map_nil]); first | done | rfl | (simp only [List.length_drop, List.length_take]; rfl)) ?_; (with_reducible refine (spec_GetEntry.calls k t363 t364 _ _ t365 _ _ t368 a1 t371 t372 t373 t376 t379 t380 _ ?side1 ?side2 ?side3 ?side4 A11.out).mono ?_); (case side1 => exact kc (Kd.R_reads' HO367.out).2.2); (case side2 => exact (Kd.R_reads' HO367.out).2.1); (case side3 => exact kc (Kd.R_reads' HO370.out).2.2); (case side4 => exact (Kd.R_reads' HO370.out).2.1); rintro e w22 ⟨v374, v377, rfl, ho0, ho1, hb⟩; refine ⟨_, rfl, ?_⟩; have n0_ := Aside0.mk (Kd.R_mono (Kd.R_told (Kd.R_told (Kd.R_old (kr HO367.out) hb) (Kd.R_base ho0)) (Kd.R_base ho1)) (fun _ h_ => h_.1)); have n1_ := Aside0.mk (Kd.R_mono (Kd.R_told (Kd.R_told (Kd.R_old (kr HO370.out) hb) (Kd.R_base ho0)) (Kd.R_base ho1)) (fun _ h_ => h_.1)); have n2_ := Aside0.mk (Kd.R_lower (Kd.R_new' (Kd.R_new' ho0 (Kd.R_lt (kr HO367.out))) (Kd.R_lt (kr HO370.out))) (below_size (bl1 HB.out GE361.out))); have n3_ := Aside0.mk (Kd.R_lower (Kd.R_new' (Kd.R_new' ho1 (Kd.R_lt (kr HO367.out))) (Kd.R_lt (kr HO370.out))) (below_size (bl1 HB.out GE361.out))); have n4_ := Aside0.mk (blk_below (g := gb361) (o := .cells #[.int .i64 a0_0, .int .i64 a0_1, .slice A0_2 l0_2.length c0_2, .slice A0_3 l0_3.length c0_3] 24 (0, 0)) (bk BK361.out) hb); have n5_ := Aside0.mk (below_step (bl1 HB.out GE361.out) hb); clear HO367; clear HO370; clear BK361; clear HB; have HO367 := n0_; have HO370 := n1_; have HO375 := n2_; have HO378 := n3_; have BK361 := n4_; have HB := n5_; clear n0_ n1_ n2_ n3_ n4_ n5_; (try clear hb); (try clear hb2); (try clear hk); (try clear hi); (try clear ho0); (try clear ho1)) | ((with_reducible refine gate_dst (N := 6) rfl ?_); refine box_event ?hg (N := 6) ?hd (cs := #[.int .i64 0, .int .i64 0, .slice none 0 0, .slice none 0 0]) (t := 28) ?hr ?_; (case hd => rfl); (case hg => rfl); (case hr => first | (go_simp; done) | (go_simp; rfl)); intro gb381 hg w23 hbox hb; have n0_ := Aside0.mk (Kd.R_below (kr HO367.out) hb); have n1_ := Aside0.mk (Kd.R_below (kr HO370.out) hb); have n2_ := Aside0.mk (Kd.R_below (kr HO375.out) hb); have n3_ := Aside0.mk (Kd.R_below (kr HO378.out) hb); have n4_ := Aside0.mk (blk_below (g := gb361) (o := .cells #[.int .i64 a0_0, .int .i64 a0_1, .slice A0_2 l0_2.length c0_2, .slice A0_3 l0_3.length c0_3] 24 (0, 0)) (bk BK361.out) hb); have n5_ := Aside0.mk (below_step (bl1 HB.out GE361.out) hb); have n6_ := Aside0.mk (hbox); have n7_ := Aside0.mk ((by rw [hg]; exact (below_size (bl1 HB.out GE361.out)) : w.heap.size ≤ gb381)); have n8_ := Aside0.mk ((by rw [hg]; exact (below_size (bl1 HB.out GE361.out)) : w.heap.size ≤ gb381)); have n9_ := Aside0.mk ((by rw [hg]; exact Nat.ne_of_lt (blk_lt (g := gb361) (o := .cells #[.int .i64 a0_0, .int .i64 a0_1, .slice A0_2 l0_2.length c0_2, .slice A0_3 l0_3.length c0_3] 24 (0, 0)) (bk BK361.out)) : gb361 ≠ gb381)); have n10_ := Aside0.mk ((by rw [hg]; exact Nat.ne_of_gt (blk_lt (g := gb361) (o := .cells #[.int .i64 a0_0, .int .i64 a0_1, .slice A0_2 l0_2.length c0_2, .slice A0_3 l0_3.length c0_3] 24 (0, 0)) (bk BK361.out)) : gb381 ≠ gb361)); clear HO367; clear HO370; clear HO375; clear HO378; clear BK361; clear HB; have HO367 := n0_; have HO370 := n1_; have HO375 := n2_; have HO378 := n3_; have BK361 := n4_; have HB := n5_; have BK381 := n6_; have GW381 := n7_; have GE381 := n8_; have NB361_381 := n9_; have NB381_361 := n10_; clear n0_ n1_ n2_ n3_ n4_ n5_ n6_ n7_ n8_ n9_ n10_; clear hb hbox hg; have hnb24 := NB381_361.out; have hnc24 := NB361_381.out; have hcz25_0 : w23.cell? ⟨gb381, 0, none⟩ = some (.int .i64 0) := (blk_cell BK381.out 0).trans rfl; have hcz25_1 : w23.cell? ⟨gb381, 1, none⟩ = some (.int .i64 0) := (blk_cell BK381.out 1).trans rfl; have hcz25_2 : w23.cell? ⟨gb381, 2, none⟩ = some (.slice none 0 0) := (blk_cell BK381.out 2).trans rfl; have hcz25_3 : w23.cell? ⟨gb381, 3, none⟩ = some (.slice none 0 0) := (blk_cell BK381.out 3).trans rfl; have hfz25_0 := blk_frozen BK381.out 0; have hfz25_1 := blk_frozen BK381.out 1; have hfz25_2 := blk_frozen BK381.out 2; have hfz25_3 := blk_frozen BK381.out 3; obtain ⟨Ao26, co26, eo26⟩ := Kd.R_slice HO375.out; subst eo26; obtain ⟨Ao27, co27, eo27⟩ := Kd.R_slice HO378.out; subst eo27; have hcz28_0 : w23.cell? ⟨gb361, 0, none⟩ = some (.int .i64 a0_0) := (blk_cell BK361.out 0).trans rfl; have hcz28_1 : w23.cell? ⟨gb361, 1, none⟩ = some (.int .i64 a0_1) := (blk_cell BK361.out 1).trans rfl; have hcz28_2 : w23.cell? ⟨gb361, 2, none⟩ = some (.slice A0_2 l0_2.length c0_2) := (blk_cell BK361.out 2).trans rfl; have hcz28_3 : w23.cell? ⟨gb361, 3, none⟩ = some (.slice A0_3 l0_3.length c0_3) := (blk_cell BK361.out 3).trans rfl; have hfz28_0 := blk_frozen BK361.out 0; have hfz28_1 := blk_frozen BK361.out 1; have hfz28_2 := blk_frozen BK361.out 2; have hfz28_3 := blk_frozen BK361.out 3) | ((with_reducible refine gate_callee (f := 11) rfl ?_); refine goesL_ (some 36) rfl rfl Try.func11 (by kernel_rfl) rfl #[.agg #[.int .i64 a0_0, .int .i64 a0_1, .slice A0_2 l0_2.length c0_2, .slice A0_3 l0_3.length c0_3]] rfl (by (try simp only [List.map_toArray, List.map_cons, List.map_nil]); first | done | rfl | (simp only [List.length_drop, List.length_take]; rfl)) ?_; (with_reducible refine (laws_toSegmented.calls k a0_0 a0_1 _ _ l0_2 _ _ l0_3 t382 t383 t384 t387 _ ?side1 ?side2 ?side3 ?side4 A12.out).mono ?_); (case side1 => exact Kd.C_below HR0_2.out (bl2 HB.out GE361.out GE381.out)); (case side2 => exact HC0_2.out); (case side3 => exact Kd.C_below HR0_3.out (bl2 HB.out GE361.out GE381.out)); (case side4 => exact HC0_3.out); rintro e w29 ⟨v385, v388, rfl, ho0, ho1, hb⟩; refine ⟨_, rfl, ?_⟩; have n0_ := Aside0.mk (Kd.R_mono (Kd.R_told (Kd.R_told (Kd.R_old (by (with_reducible repeat (first | apply Kd.R_alloc | apply Kd.R_drewN | apply Kd.R_drew)); exact (Kd.R_mono (Kd.R_far (p := ⟨gb381, 3, none⟩) (Kd.R_far (p := ⟨gb381, 2, none⟩) (Kd.R_far (p := ⟨gb381, 1, none⟩) (Kd.R_far (p := ⟨gb381, 0, none⟩) (Kd.R_types HO367.out BK381.out (by decide)) (fun _ hk => hk.2) (.int .i64 t371)) (fun _ hk => hk.2) (.int .i64 t372)) (fun _ hk => hk.2) (.slice Ao26 t373.length co26)) (fun _ hk => hk.2) (.slice Ao27 t376.length co27)) (fun _ h_ => h_.1))) hb) (Kd.R_base ho0)) (Kd.R_base ho1)) (fun _ h_ => h_.1)); have n1_ := Aside0.mk (Kd.R_mono (Kd.R_told (Kd.R_told (Kd.R_old (by (with_reducible repeat (first | apply Kd.R_alloc | apply Kd.R_drewN | apply Kd.R_drew)); exact (Kd.R_mono (Kd.R_far (p := ⟨gb381, 3, none⟩) (Kd.R_far (p := ⟨gb381, 2, none⟩) (Kd.R_far (p := ⟨gb381, 1, none⟩) (Kd.R_far (p := ⟨gb381, 0, none⟩) (Kd.R_types HO370.out BK381.out (by decide)) (fun _ hk => hk.2) (.int .i64 t371)) (fun _ hk => hk.2) (.int .i64 t372)) (fun _ hk => hk.2) (.slice Ao26 t373.length co26)) (fun _ hk => hk.2) (.slice Ao27 t376.length co27)) (fun _ h_ => h_.1))) hb) (Kd.R_base ho0)) (Kd.R_base ho1)) (fun _ h_ => h_.1)); have n2_ := Aside0.mk (Kd.R_mono (Kd.R_told (Kd.R_told (Kd.R_old (by (with_reducible repeat (first | apply Kd.R_alloc | apply Kd.R_drewN | apply Kd.R_drew)); exact (Kd.R_mono (Kd.R_far (p := ⟨gb381, 3, none⟩) (Kd.R_far (p := ⟨gb381, 2, none⟩) (Kd.R_far (p := ⟨gb381, 1, none⟩) (Kd.R_far (p := ⟨gb381, 0, none⟩) (Kd.R_types HO375.out BK381.out (by decide)) (fun _ hk => hk.2) (.int .i64 t371)) (fun _ hk => hk.2) (.int .i64 t372)) (fun _ hk => hk.2) (.slice Ao26 t373.length co26)) (fun _ hk => hk.2) (.slice Ao27 t376.length co27)) (fun _ h_ => h_.1))) hb) (Kd.R_base ho0)) (Kd.R_base ho1)) (fun _ h_ => h_.1)); have n3_ := Aside0.mk (Kd.R_mono (Kd.R_told (Kd.R_told (Kd.R_old (by (with_reducible repeat (first | apply Kd.R_alloc | apply Kd.R_drewN | apply Kd.R_drew)); exact (Kd.R_mono (Kd.R_far (p := ⟨gb381, 3, none⟩) (Kd.R_far (p := ⟨gb381, 2, none⟩) (Kd.R_far (p := ⟨gb381, 1, none⟩) (Kd.R_far (p := ⟨gb381, 0, none⟩) (Kd.R_types HO378.out BK381.out (by decide)) (fun _ hk => hk.2) (.int .i64 t371)) (fun _ hk => hk.2) (.int .i64 t372)) (fun _ hk => hk.2) (.slice Ao26 t373.length co26)) (fun _ hk => hk.2) (.slice Ao27 t376.length co27)) (fun _ h_ => h_.1))) hb) (Kd.R_base ho0)) (Kd.R_base ho1)) (fun _ h_ => h_.1)); have n4_ := Aside0.mk (Kd.R_lower (Kd.R_new' (Kd.R_new' (Kd.R_new' (Kd.R_new' ho0 (Kd.R_lt (by (with_reducible repeat (first | apply Kd.R_alloc | apply Kd.R_drewN | apply Kd.R_drew)); exact (Kd.R_mono (Kd.R_far (p := ⟨gb381, 3, none⟩) (Kd.R_far (p := ⟨gb381, 2, none⟩) (Kd.R_far (p := ⟨gb381, 1, none⟩) (Kd.R_far (p := ⟨gb381, 0, none⟩) (Kd.R_types HO367.out BK381.out (by decide)) (fun _ hk => hk.2) (.int .i64 t371)) (fun _ hk => hk.2) (.int .i64 t372)) (fun _ hk => hk.2) (.slice Ao26 t373.length co26)) (fun _ hk => hk.2) (.slice Ao27 t376.length co27)) (fun _ h_ => h_.1))))) (Kd.R_lt (by (with_reducible repeat (first | apply Kd.R_alloc | apply Kd.R_drewN | apply Kd.R_drew)); exact (Kd.R_mono (Kd.R_far (p := ⟨gb381, 3, none⟩) (Kd.R_far (p := ⟨gb381, 2, none⟩) (Kd.R_far (p := ⟨gb381, 1, none⟩) (Kd.R_far (p := ⟨gb381, 0, none⟩) (Kd.R_types HO370.out BK381.out (by decide)) (fun _ hk => hk.2) (.int .i64 t371)) (fun _ hk => hk.2) (.int .i64 t372)) (fun _ hk => hk.2) (.slice Ao26 t373.length co26)) (fun _ hk => hk.2) (.slice Ao27 t376.length co27)) (fun _ h_ => h_.1))))) (Kd.R_lt (by (with_reducible repeat (first | apply Kd.R_alloc | apply Kd.R_drewN | apply Kd.R_drew)); exact (Kd.R_mono (Kd.R_far (p := ⟨gb381, 3, none⟩) (Kd.R_far (p := ⟨gb381, 2, none⟩) (Kd.R_far (p := ⟨gb381, 1, none⟩) (Kd.R_far (p := ⟨gb381, 0, none⟩) (Kd.R_types HO375.out BK381.out (by decide)) (fun _ hk => hk.2) (.int .i64 t371)) (fun _ hk => hk.2) (.int .i64 t372)) (fun _ hk => hk.2) (.slice Ao26 t373.length co26)) (fun _ hk => hk.2) (.slice Ao27 t376.length co27)) (fun _ h_ => h_.1))))) (Kd.R_lt (by (with_reducible repeat (first | apply Kd.R_alloc | apply Kd.R_drewN | apply Kd.R_drew)); exact (Kd.R_mono (Kd.R_far (p := ⟨gb381, 3, none⟩) (Kd.R_far (p := ⟨gb381, 2, none⟩) (Kd.R_far (p := ⟨gb381, 1, none⟩) (Kd.R_far (p := ⟨gb381, 0, none⟩) (Kd.R_types HO378.out BK381.out (by decide)) (fun _ hk => hk.2) (.int .i64 t371)) (fun _ hk => hk.2) (.int .i64 t372)) (fun _ hk => hk.2) (.slice Ao26 t373.length co26)) (fun _ hk => hk.2) (.slice Ao27 t376.length co27)) (fun _ h_ => h_.1))))) (below_size (bl2 HB.out GE361.out GE381.out))); have n5_ := Aside0.mk (Kd.R_lower (Kd.R_new' (Kd.R_new' (Kd.R_new' (Kd.R_new' ho1 (Kd.R_lt (by (with_reducible repeat (first | apply Kd.R_alloc | apply Kd.R_drewN | apply Kd.R_drew)); exact (Kd.R_mono (Kd.R_far (p := ⟨gb381, 3, none⟩) (Kd.R_far (p := ⟨gb381, 2, none⟩) (Kd.R_far (p := ⟨gb381, 1, none⟩) (Kd.R_far (p := ⟨gb381, 0, none⟩) (Kd.R_types HO367.out BK381.out (by decide)) (fun _ hk => hk.2) (.int .i64 t371)) (fun _ hk => hk.2) (.int .i64 t372)) (fun _ hk => hk.2) (.slice Ao26 t373.length co26)) (fun _ hk => hk.2) (.slice Ao27 t376.length co27)) (fun _ h_ => h_.1))))) (Kd.R_lt (by (with_reducible repeat (first | apply Kd.R_alloc | apply Kd.R_drewN | apply Kd.R_drew)); exact (Kd.R_mono (Kd.R_far (p := ⟨gb381, 3, none⟩) (Kd.R_far (p := ⟨gb381, 2, none⟩) (Kd.R_far (p := ⟨gb381, 1, none⟩) (Kd.R_far (p := ⟨gb381, 0, none⟩) (Kd.R_types HO370.out BK381.out (by decide)) (fun _ hk => hk.2) (.int .i64 t371)) (fun _ hk => hk.2) (.int .i64 t372)) (fun _ hk => hk.2) (.slice Ao26 t373.length co26)) (fun _ hk => hk.2) (.slice Ao27 t376.length co27)) (fun _ h_ => h_.1))))) (Kd.R_lt (by (with_reducible repeat (first | apply Kd.R_alloc | apply Kd.R_drewN | apply Kd.R_drew)); exact (Kd.R_mono (Kd.R_far (p := ⟨gb381, 3, none⟩) (Kd.R_far (p := ⟨gb381, 2, none⟩) (Kd.R_far (p := ⟨gb381, 1, none⟩) (Kd.R_far (p := ⟨gb381, 0, none⟩) (Kd.R_types HO375.out BK381.out (by decide)) (fun _ hk => hk.2) (.int .i64 t371)) (fun _ hk => hk.2) (.int .i64 t372)) (fun _ hk => hk.2) (.slice Ao26 t373.length co26)) (fun _ hk => hk.2) (.slice Ao27 t376.length co27)) (fun _ h_ => h_.1))))) (Kd.R_lt (by (with_reducible repeat (first | apply Kd.R_alloc | apply Kd.R_drewN | apply Kd.R_drew)); exact (Kd.R_mono (Kd.R_far (p := ⟨gb381, 3, none⟩) (Kd.R_far (p := ⟨gb381, 2, none⟩) (Kd.R_far (p := ⟨gb381, 1, none⟩) (Kd.R_far (p := ⟨gb381, 0, none⟩) (Kd.R_types HO378.out BK381.out (by decide)) (fun _ hk => hk.2) (.int .i64 t371)) (fun _ hk => hk.2) (.int .i64 t372)) (fun _ hk => hk.2) (.slice Ao26 t373.length co26)) (fun _ hk => hk.2) (.slice Ao27 t376.length co27)) (fun _ h_ => h_.1))))) (below_size (bl2 HB.out GE361.out GE381.out))); have n6_ := Aside0.mk (blk_below (g := gb361) (o := .cells #[.int .i64 a0_0, .int .i64 a0_1, .slice A0_2 l0_2.length c0_2, .slice A0_3 l0_3.length c0_3] 24 (0, 0)) (by (with_reducible repeat (first | refine blk_drewN ?_ _ | refine blk_drew ?_ | refine blk_alloc ?_ _)); refine blk_far ?_ NB361_381.out _; (with_reducible repeat (first | refine blk_drewN ?_ _ | refine blk_drew ?_ | refine blk_alloc ?_ _)); refine blk_far ?_ NB361_381.out _; (with_reducible repeat (first | refine blk_drewN ?_ _ | refine blk_drew ?_ | refine blk_alloc ?_ _)); refine blk_far ?_ NB361_381.out _; (with_reducible repeat (first | refine blk_drewN ?_ _ | refine blk_drew ?_ | refine blk_alloc ?_ _)); refine blk_far ?_ NB361_381.out _; exact bk BK361.out) hb); have n7_ := Aside0.mk (blk_below (g := gb381) (o := .cells #[.int .i64 t371, .int .i64 t372, .slice Ao26 t373.length co26, .slice Ao27 t376.length co27] 28 (0, 0)) (by (with_reducible repeat (first | refine blk_drewN ?_ _ | refine blk_drew ?_ | refine blk_alloc ?_ _)); refine blk_put (cs := #[.int .i64 t371, .int .i64 t372, .slice Ao26 t373.length co26, .slice none 0 0]) ?_ 3 _ rfl; (with_reducible repeat (first | refine blk_drewN ?_ _ | refine blk_drew ?_ | refine blk_alloc ?_ _)); refine blk_put (cs := #[.int .i64 t371, .int .i64 t372, .slice none 0 0, .slice none 0 0]) ?_ 2 _ rfl; (with_reducible repeat (first | refine blk_drewN ?_ _ | refine blk_drew ?_ | refine blk_alloc ?_ _)); refine blk_put (cs := #[.int .i64 t371, .int .i64 0, .slice none 0 0, .slice none 0 0]) ?_ 1 _ rfl; (with_reducible repeat (first | refine blk_drewN ?_ _ | refine blk_drew ?_ | refine blk_alloc ?_ _)); refine blk_put (cs := #[.int .i64 0, .int .i64 0, .slice none 0 0, .slice none 0 0]) ?_ 0 _ rfl; exact bk BK381.out) hb); have n8_ := Aside0.mk (below_step (bl2 HB.out GE361.out GE381.out) hb); clear HO367; clear HO370; clear HO375; clear HO378; clear BK361; clear BK381; clear HB; have HO367 := n0_; have HO370 := n1_; have HO375 := n2_; have HO378 := n3_; have HO386 := n4_; have HO389 := n5_; have BK361 := n6_; have BK381 := n7_; have HB := n8_; clear n0_ n1_ n2_ n3_ n4_ n5_ n6_ n7_ n8_; (try clear hb); (try clear hb2); (try clear hk); (try clear hi); (try clear ho0); (try clear ho1)) | ((with_reducible refine gate_dst (N := 9) rfl ?_); refine box_event ?hg (N := 9) ?hd (cs := #[.int .i64 0, .int .i64 0, .slice none 0 0, .slice none 0 0]) (t := 28) ?hr ?_; (case hd => rfl); (case hg => rfl); (case hr => first | (go_simp; done) | (go_simp; rfl)); intro gb390 hg w30 hbox hb; have n0_ := Aside0.mk (Kd.R_below (kr HO367.out) hb); have n1_ := Aside0.mk (Kd.R_below (kr HO370.out) hb); have n2_ := Aside0.mk (Kd.R_below (kr HO375.out) hb); have n3_ := Aside0.mk (Kd.R_below (kr HO378.out) hb); have n4_ := Aside0.mk (Kd.R_below (kr HO386.out) hb); have n5_ := Aside0.mk (Kd.R_below (kr HO389.out) hb); have n6_ := Aside0.mk (blk_below (g := gb361) (o := .cells #[.int .i64 a0_0, .int .i64 a0_1, .slice A0_2 l0_2.length c0_2, .slice A0_3 l0_3.length c0_3] 24 (0, 0)) (bk BK361.out) hb); have n7_ := Aside0.mk (blk_below (g := gb381) (o := .cells #[.int .i64 t371, .int .i64 t372, .slice Ao26 t373.length co26, .slice Ao27 t376.length co27] 28 (0, 0)) (bk BK381.out) hb); have n8_ := Aside0.mk (below_step (bl2 HB.out GE361.out GE381.out) hb); have n9_ := Aside0.mk (hbox); have n10_ := Aside0.mk ((by rw [hg]; exact (below_size (bl2 HB.out GE361.out GE381.out)) : w.heap.size ≤ gb390)); have n11_ := Aside0.mk ((by rw [hg]; exact (below_size (bl2 HB.out GE361.out GE381.out)) : w.heap.size ≤ gb390)); have n12_ := Aside0.mk ((by rw [hg]; exact Nat.ne_of_lt (blk_lt (g := gb361) (o := .cells #[.int .i64 a0_0, .int .i64 a0_1, .slice A0_2 l0_2.length c0_2, .slice A0_3 l0_3.length c0_3] 24 (0, 0)) (bk BK361.out)) : gb361 ≠ gb390)); have n13_ := Aside0.mk ((by rw [hg]; exact Nat.ne_of_gt (blk_lt (g := gb361) (o := .cells #[.int .i64 a0_0, .int .i64 a0_1, .slice A0_2 l0_2.length c0_2, .slice A0_3 l0_3.length c0_3] 24 (0, 0)) (bk BK361.out)) : gb390 ≠ gb361)); have n14_ := Aside0.mk ((by rw [hg]; exact Nat.ne_of_lt (blk_lt (g := gb381) (o := .cells #[.int .i64 t371, .int .i64 t372, .slice Ao26 t373.length co26, .slice Ao27 t376.length co27] 28 (0, 0)) (bk BK381.out)) : gb381 ≠ gb390)); have n15_ := Aside0.mk ((by rw [hg]; exact Nat.ne_of_gt (blk_lt (g := gb381) (o := .cells #[.int .i64 t371, .int .i64 t372, .slice Ao26 t373.length co26, .slice Ao27 t376.length co27] 28 (0, 0)) (bk BK381.out)) : gb390 ≠ gb381)); clear HO367; clear HO370; clear HO375; clear HO378; clear HO386; clear HO389; clear BK361; clear BK381; clear HB; have HO367 := n0_; have HO370 := n1_; have HO375 := n2_; have HO378 := n3_; have HO386 := n4_; have HO389 := n5_; have BK361 := n6_; have BK381 := n7_; have HB := n8_; have BK390 := n9_; have GW390 := n10_; have GE390 := n11_; have NB361_390 := n12_; have NB390_361 := n13_; have NB381_390 := n14_; have NB390_381 := n15_; clear n0_ n1_ n2_ n3_ n4_ n5_ n6_ n7_ n8_ n9_ n10_ n11_ n12_ n13_ n14_ n15_; clear hb hbox hg; have hnb31 := NB390_361.out; have hnc31 := NB361_390.out; have hnb32 := NB390_381.out; have hnc32 := NB381_390.out; have hcz33_0 : w30.cell? ⟨gb390, 0, none⟩ = some (.int .i64 0) := (blk_cell BK390.out 0).trans rfl; have hcz33_1 : w30.cell? ⟨gb390, 1, none⟩ = some (.int .i64 0) := (blk_cell BK390.out 1).trans rfl; have hcz33_2 : w30.cell? ⟨gb390, 2, none⟩ = some (.slice none 0 0) := (blk_cell BK390.out 2).trans rfl; have hcz33_3 : w30.cell? ⟨gb390, 3, none⟩ = some (.slice none 0 0) := (blk_cell BK390.out 3).trans rfl; have hfz33_0 := blk_frozen BK390.out 0; have hfz33_1 := blk_frozen BK390.out 1; have hfz33_2 := blk_frozen BK390.out 2; have hfz33_3 := blk_frozen BK390.out 3; obtain ⟨Ao34, co34, eo34⟩ := Kd.R_slice HO386.out; subst eo34; obtain ⟨Ao35, co35, eo35⟩ := Kd.R_slice HO389.out; subst eo35) | ((with_reducible refine gate_callee (f := 31) rfl ?_); refine goesL_ (some 40) rfl rfl Try.func31 (by kernel_rfl) rfl #[.agg #[.int .i64 t382, .int .i64 t383, .slice Ao34 t384.length co34, .slice Ao35 t387.length co35], .string a1] rfl (by (try simp only [List.map_toArray, List.map_cons, List.map_nil]); first | done | rfl | (simp only [List.length_drop, List.length_take]; rfl)) ?_; (with_reducible refine (impl_GetEntry.calls k t382 t383 _ _ t384 _ _ t387 a1 t391 t392 t393 t396 t399 t400 _ ?side1 ?side2 ?side3 ?side4 A13.out).mono ?_); (case side1 => refine (Kd.R_reads' (e := 45) (base := w.heap.size) (ok := fun k_ => ((((some k_ ≠ (.slice Ao35 t387.length co35 : Value).ownBlock ∧ some k_ ≠ (.slice Ao20 t365.length co20 : Value).ownBlock) ∧ some k_ ≠ (.slice Ao21 t368.length co21 : Value).ownBlock) ∧ some k_ ≠ (.slice Ao26 t373.length co26 : Value).ownBlock) ∧ some k_ ≠ (.slice Ao27 t376.length co27 : Value).ownBlock)) (n := t384.length) (c := co34) ?_).2.2; exact (by (with_reducible repeat (first | apply Kd.R_alloc | apply Kd.R_drewN | apply Kd.R_drew)); exact (Kd.R_mono (Kd.R_far (p := ⟨gb390, 3, none⟩) (Kd.R_far (p := ⟨gb390, 2, none⟩) (Kd.R_far (p := ⟨gb390, 1, none⟩) (Kd.R_far (p := ⟨gb390, 0, none⟩) (Kd.R_types HO386.out BK390.out (by decide)) (fun _ hk => hk.2) (.int .i64 t382)) (fun _ hk => hk.2) (.int .i64 t383)) (fun _ hk => hk.2) (.slice Ao34 t384.length co34)) (fun _ hk => hk.2) (.slice Ao35 t387.length co35)) (fun _ h_ => h_.1)))); (case side2 => exact (Kd.R_reads' HO386.out).2.1); (case side3 => refine (Kd.R_reads' (e := 45) (base := w.heap.size) (ok := fun k_ => ((((some k_ ≠ (.slice Ao34 t384.length co34 : Value).ownBlock ∧ some k_ ≠ (.slice Ao20 t365.length co20 : Value).ownBlock) ∧ some k_ ≠ (.slice Ao21 t368.length co21 : Value).ownBlock) ∧ some k_ ≠ (.slice Ao26 t373.length co26 : Value).ownBlock) ∧ some k_ ≠ (.slice Ao27 t376.length co27 : Value).ownBlock)) (n := t387.length) (c := co35) ?_).2.2; exact (by (with_reducible repeat (first | apply Kd.R_alloc | apply Kd.R_drewN | apply Kd.R_drew)); exact (Kd.R_mono (Kd.R_far (p := ⟨gb390, 3, none⟩) (Kd.R_far (p := ⟨gb390, 2, none⟩) (Kd.R_far (p := ⟨gb390, 1, none⟩) (Kd.R_far (p := ⟨gb390, 0, none⟩) (Kd.R_types HO389.out BK390.out (by decide)) (fun _ hk => hk.2) (.int .i64 t382)) (fun _ hk => hk.2) (.int .i64 t383)) (fun _ hk => hk.2) (.slice Ao34 t384.length co34)) (fun _ hk => hk.2) (.slice Ao35 t387.length co35)) (fun _ h_ => h_.1)))); (case side4 => exact (Kd.R_reads' HO389.out).2.1); rintro e w36 ⟨v394, v397, rfl, ho0, ho1, hb⟩; refine ⟨_, rfl, ?_⟩; have n0_ := Aside0.mk (Kd.R_mono (Kd.R_told (Kd.R_told (Kd.R_old (by (with_reducible repeat (first | apply Kd.R_alloc | apply Kd.R_drewN | apply Kd.R_drew)); exact (Kd.R_mono (Kd.R_far (p := ⟨gb390, 3, none⟩) (Kd.R_far (p := ⟨gb390, 2, none⟩) (Kd.R_far (p := ⟨gb390, 1, none⟩) (Kd.R_far (p := ⟨gb390, 0, none⟩) (Kd.R_types HO367.out BK390.out (by decide)) (fun _ hk => hk.2) (.int .i64 t382)) (fun _ hk => hk.2) (.int .i64 t383)) (fun _ hk => hk.2) (.slice Ao34 t384.length co34)) (fun _ hk => hk.2) (.slice Ao35 t387.length co35)) (fun _ h_ => h_.1))) hb) (Kd.R_base ho0)) (Kd.R_base ho1)) (fun _ h_ => h_.1)); have n1_ := Aside0.mk (Kd.R_mono (Kd.R_told (Kd.R_told (Kd.R_old (by (with_reducible repeat (first | apply Kd.R_alloc | apply Kd.R_drewN | apply Kd.R_drew)); exact (Kd.R_mono (Kd.R_far (p := ⟨gb390, 3, none⟩) (Kd.R_far (p := ⟨gb390, 2, none⟩) (Kd.R_far (p := ⟨gb390, 1, none⟩) (Kd.R_far (p := ⟨gb390, 0, none⟩) (Kd.R_types HO370.out BK390.out (by decide)) (fun _ hk => hk.2) (.int .i64 t382)) (fun _ hk => hk.2) (.int .i64 t383)) (fun _ hk => hk.2) (.slice Ao34 t384.length co34)) (fun _ hk => hk.2) (.slice Ao35 t387.length co35)) (fun _ h_ => h_.1))) hb) (Kd.R_base ho0)) (Kd.R_base ho1)) (fun _ h_ => h_.1)); have n2_ := Aside0.mk (Kd.R_mono (Kd.R_told (Kd.R_told (Kd.R_old (by (with_reducible repeat (first | apply Kd.R_alloc | apply Kd.R_drewN | apply Kd.R_drew)); exact (Kd.R_mono (Kd.R_far (p := ⟨gb390, 3, none⟩) (Kd.R_far (p := ⟨gb390, 2, none⟩) (Kd.R_far (p := ⟨gb390, 1, none⟩) (Kd.R_far (p := ⟨gb390, 0, none⟩) (Kd.R_types HO375.out BK390.out (by decide)) (fun _ hk => hk.2) (.int .i64 t382)) (fun _ hk => hk.2) (.int .i64 t383)) (fun _ hk => hk.2) (.slice Ao34 t384.length co34)) (fun _ hk => hk.2) (.slice Ao35 t387.length co35)) (fun _ h_ => h_.1))) hb) (Kd.R_base ho0)) (Kd.R_base ho1)) (fun _ h_ => h_.1)); have n3_ := Aside0.mk (Kd.R_mono (Kd.R_told (Kd.R_told (Kd.R_old (by (with_reducible repeat (first | apply Kd.R_alloc | apply Kd.R_drewN | apply Kd.R_drew)); exact (Kd.R_mono (Kd.R_far (p := ⟨gb390, 3, none⟩) (Kd.R_far (p := ⟨gb390, 2, none⟩) (Kd.R_far (p := ⟨gb390, 1, none⟩) (Kd.R_far (p := ⟨gb390, 0, none⟩) (Kd.R_types HO378.out BK390.out (by decide)) (fun _ hk => hk.2) (.int .i64 t382)) (fun _ hk => hk.2) (.int .i64 t383)) (fun _ hk => hk.2) (.slice Ao34 t384.length co34)) (fun _ hk => hk.2) (.slice Ao35 t387.length co35)) (fun _ h_ => h_.1))) hb) (Kd.R_base ho0)) (Kd.R_base ho1)) (fun _ h_ => h_.1)); have n4_ := Aside0.mk (Kd.R_mono (Kd.R_told (Kd.R_told (Kd.R_old (by (with_reducible repeat (first | apply Kd.R_alloc | apply Kd.R_drewN | apply Kd.R_drew)); exact (Kd.R_mono (Kd.R_far (p := ⟨gb390, 3, none⟩) (Kd.R_far (p := ⟨gb390, 2, none⟩) (Kd.R_far (p := ⟨gb390, 1, none⟩) (Kd.R_far (p := ⟨gb390, 0, none⟩) (Kd.R_types HO386.out BK390.out (by decide)) (fun _ hk => hk.2) (.int .i64 t382)) (fun _ hk => hk.2) (.int .i64 t383)) (fun _ hk => hk.2) (.slice Ao34 t384.length co34)) (fun _ hk => hk.2) (.slice Ao35 t387.length co35)) (fun _ h_ => h_.1))) hb) (Kd.R_base ho0)) (Kd.R_base ho1)) (fun _ h_ => h_.1)); have n5_ := Aside0.mk (Kd.R_mono (Kd.R_told (Kd.R_told (Kd.R_old (by (with_reducible repeat (first | apply Kd.R_alloc | apply Kd.R_drewN | apply Kd.R_drew)); exact (Kd.R_mono (Kd.R_far (p := ⟨gb390, 3, none⟩) (Kd.R_far (p := ⟨gb390, 2, none⟩) (Kd.R_far (p := ⟨gb390, 1, none⟩) (Kd.R_far (p := ⟨gb390, 0, none⟩) (Kd.R_types HO389.out BK390.out (by decide)) (fun _ hk => hk.2) (.int .i64 t382)) (fun _ hk => hk.2) (.int .i64 t383)) (fun _ hk => hk.2) (.slice Ao34 t384.length co34)) (fun _ hk => hk.2) (.slice Ao35 t387.length co35)) (fun _ h_ => h_.1))) hb) (Kd.R_base ho0)) (Kd.R_base ho1)) (fun _ h_ => h_.1)); have n6_ := Aside0.mk (Kd.R_lower (Kd.R_new' (Kd.R_new' (Kd.R_new' (Kd.R_new' (Kd.R_new' (Kd.R_new' ho0 (Kd.R_lt (by (with_reducible repeat (first | apply Kd.R_alloc | apply Kd.R_drewN | apply Kd.R_drew)); exact (Kd.R_mono (Kd.R_far (p := ⟨gb390, 3, none⟩) (Kd.R_far (p := ⟨gb390, 2, none⟩) (Kd.R_far (p := ⟨gb390, 1, none⟩) (Kd.R_far (p := ⟨gb390, 0, none⟩) (Kd.R_types HO367.out BK390.out (by decide)) (fun _ hk => hk.2) (.int .i64 t382)) (fun _ hk => hk.2) (.int .i64 t383)) (fun _ hk => hk.2) (.slice Ao34 t384.length co34)) (fun _ hk => hk.2) (.slice Ao35 t387.length co35)) (fun _ h_ => h_.1))))) (Kd.R_lt (by (with_reducible repeat (first | apply Kd.R_alloc | apply Kd.R_drewN | apply Kd.R_drew)); exact (Kd.R_mono (Kd.R_far (p := ⟨gb390, 3, none⟩) (Kd.R_far (p := ⟨gb390, 2, none⟩) (Kd.R_far (p := ⟨gb390, 1, none⟩) (Kd.R_far (p := ⟨gb390, 0, none⟩) (Kd.R_types HO370.out BK390.out (by decide)) (fun _ hk => hk.2) (.int .i64 t382)) (fun _ hk => hk.2) (.int .i64 t383)) (fun _ hk => hk.2) (.slice Ao34 t384.length co34)) (fun _ hk => hk.2) (.slice Ao35 t387.length co35)) (fun _ h_ => h_.1))))) (Kd.R_lt (by (with_reducible repeat (first | apply Kd.R_alloc | apply Kd.R_drewN | apply Kd.R_drew)); exact (Kd.R_mono (Kd.R_far (p := ⟨gb390, 3, none⟩) (Kd.R_far (p := ⟨gb390, 2, none⟩) (Kd.R_far (p := ⟨gb390, 1, none⟩) (Kd.R_far (p := ⟨gb390, 0, none⟩) (Kd.R_types HO375.out BK390.out (by decide)) (fun _ hk => hk.2) (.int .i64 t382)) (fun _ hk => hk.2) (.int .i64 t383)) (fun _ hk => hk.2) (.slice Ao34 t384.length co34)) (fun _ hk => hk.2) (.slice Ao35 t387.length co35)) (fun _ h_ => h_.1))))) (Kd.R_lt (by (with_reducible repeat (first | apply Kd.R_alloc | apply Kd.R_drewN | apply Kd.R_drew)); exact (Kd.R_mono (Kd.R_far (p := ⟨gb390, 3, none⟩) (Kd.R_far (p := ⟨gb390, 2, none⟩) (Kd.R_far (p := ⟨gb390, 1, none⟩) (Kd.R_far (p := ⟨gb390, 0, none⟩) (Kd.R_types HO378.out BK390.out (by decide)) (fun _ hk => hk.2) (.int .i64 t382)) (fun _ hk => hk.2) (.int .i64 t383)) (fun _ hk => hk.2) (.slice Ao34 t384.length co34)) (fun _ hk => hk.2) (.slice Ao35 t387.length co35)) (fun _ h_ => h_.1))))) (Kd.R_lt (by (with_reducible repeat (first | apply Kd.R_alloc | apply Kd.R_drewN | apply Kd.R_drew)); exact (Kd.R_mono (Kd.R_far (p := ⟨gb390, 3, none⟩) (Kd.R_far (p := ⟨gb390, 2, none⟩) (Kd.R_far (p := ⟨gb390, 1, none⟩) (Kd.R_far (p := ⟨gb390, 0, none⟩) (Kd.R_types HO386.out BK390.out (by decide)) (fun _ hk => hk.2) (.int .i64 t382)) (fun _ hk => hk.2) (.int .i64 t383)) (fun _ hk => hk.2) (.slice Ao34 t384.length co34)) (fun _ hk => hk.2) (.slice Ao35 t387.length co35)) (fun _ h_ => h_.1))))) (Kd.R_lt (by (with_reducible repeat (first | apply Kd.R_alloc | apply Kd.R_drewN | apply Kd.R_drew)); exact (Kd.R_mono (Kd.R_far (p := ⟨gb390, 3, none⟩) (Kd.R_far (p := ⟨gb390, 2, none⟩) (Kd.R_far (p := ⟨gb390, 1, none⟩) (Kd.R_far (p := ⟨gb390, 0, none⟩) (Kd.R_types HO389.out BK390.out (by decide)) (fun _ hk => hk.2) (.int .i64 t382)) (fun _ hk => hk.2) (.int .i64 t383)) (fun _ hk => hk.2) (.slice Ao34 t384.length co34)) (fun _ hk => hk.2) (.slice Ao35 t387.length co35)) (fun _ h_ => h_.1))))) (below_size (bl3 HB.out GE361.out GE381.out GE390.out))); have n7_ := Aside0.mk (Kd.R_lower (Kd.R_new' (Kd.R_new' (Kd.R_new' (Kd.R_new' (Kd.R_new' (Kd.R_new' ho1 (Kd.R_lt (by (with_reducible repeat (first | apply Kd.R_alloc | apply Kd.R_drewN | apply Kd.R_drew)); exact (Kd.R_mono (Kd.R_far (p := ⟨gb390, 3, none⟩) (Kd.R_far (p := ⟨gb390, 2, none⟩) (Kd.R_far (p := ⟨gb390, 1, none⟩) (Kd.R_far (p := ⟨gb390, 0, none⟩) (Kd.R_types HO367.out BK390.out (by decide)) (fun _ hk => hk.2) (.int .i64 t382)) (fun _ hk => hk.2) (.int .i64 t383)) (fun _ hk => hk.2) (.slice Ao34 t384.length co34)) (fun _ hk => hk.2) (.slice Ao35 t387.length co35)) (fun _ h_ => h_.1))))) (Kd.R_lt (by (with_reducible repeat (first | apply Kd.R_alloc | apply Kd.R_drewN | apply Kd.R_drew)); exact (Kd.R_mono (Kd.R_far (p := ⟨gb390, 3, none⟩) (Kd.R_far (p := ⟨gb390, 2, none⟩) (Kd.R_far (p := ⟨gb390, 1, none⟩) (Kd.R_far (p := ⟨gb390, 0, none⟩) (Kd.R_types HO370.out BK390.out (by decide)) (fun _ hk => hk.2) (.int .i64 t382)) (fun _ hk => hk.2) (.int .i64 t383)) (fun _ hk => hk.2) (.slice Ao34 t384.length co34)) (fun _ hk => hk.2) (.slice Ao35 t387.length co35)) (fun _ h_ => h_.1))))) (Kd.R_lt (by (with_reducible repeat (first | apply Kd.R_alloc | apply Kd.R_drewN | apply Kd.R_drew)); exact (Kd.R_mono (Kd.R_far (p := ⟨gb390, 3, none⟩) (Kd.R_far (p := ⟨gb390, 2, none⟩) (Kd.R_far (p := ⟨gb390, 1, none⟩) (Kd.R_far (p := ⟨gb390, 0, none⟩) (Kd.R_types HO375.out BK390.out (by decide)) (fun _ hk => hk.2) (.int .i64 t382)) (fun _ hk => hk.2) (.int .i64 t383)) (fun _ hk => hk.2) (.slice Ao34 t384.length co34)) (fun _ hk => hk.2) (.slice Ao35 t387.length co35)) (fun _ h_ => h_.1))))) (Kd.R_lt (by (with_reducible repeat (first | apply Kd.R_alloc | apply Kd.R_drewN | apply Kd.R_drew)); exact (Kd.R_mono (Kd.R_far (p := ⟨gb390, 3, none⟩) (Kd.R_far (p := ⟨gb390, 2, none⟩) (Kd.R_far (p := ⟨gb390, 1, none⟩) (Kd.R_far (p := ⟨gb390, 0, none⟩) (Kd.R_types HO378.out BK390.out (by decide)) (fun _ hk => hk.2) (.int .i64 t382)) (fun _ hk => hk.2) (.int .i64 t383)) (fun _ hk => hk.2) (.slice Ao34 t384.length co34)) (fun _ hk => hk.2) (.slice Ao35 t387.length co35)) (fun _ h_ => h_.1))))) (Kd.R_lt (by (with_reducible repeat (first | apply Kd.R_alloc | apply Kd.R_drewN | apply Kd.R_drew)); exact (Kd.R_mono (Kd.R_far (p := ⟨gb390, 3, none⟩) (Kd.R_far (p := ⟨gb390, 2, none⟩) (Kd.R_far (p := ⟨gb390, 1, none⟩) (Kd.R_far (p := ⟨gb390, 0, none⟩) (Kd.R_types HO386.out BK390.out (by decide)) (fun _ hk => hk.2) (.int .i64 t382)) (fun _ hk => hk.2) (.int .i64 t383)) (fun _ hk => hk.2) (.slice Ao34 t384.length co34)) (fun _ hk => hk.2) (.slice Ao35 t387.length co35)) (fun _ h_ => h_.1))))) (Kd.R_lt (by (with_reducible repeat (first | apply Kd.R_alloc | apply Kd.R_drewN | apply Kd.R_drew)); exact (Kd.R_mono (Kd.R_far (p := ⟨gb390, 3, none⟩) (Kd.R_far (p := ⟨gb390, 2, none⟩) (Kd.R_far (p := ⟨gb390, 1, none⟩) (Kd.R_far (p := ⟨gb390, 0, none⟩) (Kd.R_types HO389.out BK390.out (by decide)) (fun _ hk => hk.2) (.int .i64 t382)) (fun _ hk => hk.2) (.int .i64 t383)) (fun _ hk => hk.2) (.slice Ao34 t384.length co34)) (fun _ hk => hk.2) (.slice Ao35 t387.length co35)) (fun _ h_ => h_.1))))) (below_size (bl3 HB.out GE361.out GE381.out GE390.out))); have n8_ := Aside0.mk (blk_below (g := gb361) (o := .cells #[.int .i64 a0_0, .int .i64 a0_1, .slice A0_2 l0_2.length c0_2, .slice A0_3 l0_3.length c0_3] 24 (0, 0)) (by (with_reducible repeat (first | refine blk_drewN ?_ _ | refine blk_drew ?_ | refine blk_alloc ?_ _)); refine blk_far ?_ NB361_390.out _; (with_reducible repeat (first | refine blk_drewN ?_ _ | refine blk_drew ?_ | refine blk_alloc ?_ _)); refine blk_far ?_ NB361_390.out _; (with_reducible repeat (first | refine blk_drewN ?_ _ | refine blk_drew ?_ | refine blk_alloc ?_ _)); refine blk_far ?_ NB361_390.out _; (with_reducible repeat (first | refine blk_drewN ?_ _ | refine blk_drew ?_ | refine blk_alloc ?_ _)); refine blk_far ?_ NB361_390.out _; exact bk BK361.out) hb); have n9_ := Aside0.mk (blk_below (g := gb381) (o := .cells #[.int .i64 t371, .int .i64 t372, .slice Ao26 t373.length co26, .slice Ao27 t376.length co27] 28 (0, 0)) (by (with_reducible repeat (first | refine blk_drewN ?_ _ | refine blk_drew ?_ | refine blk_alloc ?_ _)); refine blk_far ?_ NB381_390.out _; (with_reducible repeat (first | refine blk_drewN ?_ _ | refine blk_drew ?_ | refine blk_alloc ?_ _)); refine blk_far ?_ NB381_390.out _; (with_reducible repeat (first | refine blk_drewN ?_ _ | refine blk_drew ?_ | refine blk_alloc ?_ _)); refine blk_far ?_ NB381_390.out _; (with_reducible repeat (first | refine blk_drewN ?_ _ | refine blk_drew ?_ | refine blk_alloc ?_ _)); refine blk_far ?_ NB381_390.out _; exact bk BK381.out) hb); have n10_ := Aside0.mk (blk_below (g := gb390) (o := .cells #[.int .i64 t382, .int .i64 t383, .slice Ao34 t384.length co34, .slice Ao35 t387.length co35] 28 (0, 0)) (by (with_reducible repeat (first | refine blk_drewN ?_ _ | refine blk_drew ?_ | refine blk_alloc ?_ _)); refine blk_put (cs := #[.int .i64 t382, .int .i64 t383, .slice Ao34 t384.length co34, .slice none 0 0]) ?_ 3 _ rfl; (with_reducible repeat (first | refine blk_drewN ?_ _ | refine blk_drew ?_ | refine blk_alloc ?_ _)); refine blk_put (cs := #[.int .i64 t382, .int .i64 t383, .slice none 0 0, .slice none 0 0]) ?_ 2 _ rfl; (with_reducible repeat (first | refine blk_drewN ?_ _ | refine blk_drew ?_ | refine blk_alloc ?_ _)); refine blk_put (cs := #[.int .i64 t382, .int .i64 0, .slice none 0 0, .slice none 0 0]) ?_ 1 _ rfl; (with_reducible repeat (first | refine blk_drewN ?_ _ | refine blk_drew ?_ | refine blk_alloc ?_ _)); refine blk_put (cs := #[.int .i64 0, .int .i64 0, .slice none 0 0, .slice none 0 0]) ?_ 0 _ rfl; exact bk BK390.out) hb); have n11_ := Aside0.mk (below_step (bl3 HB.out GE361.out GE381.out GE390.out) hb); clear HO367; clear HO370; clear HO375; clear HO378; clear HO386; clear HO389; clear BK361; clear BK381; clear BK390; clear HB; have HO367 := n0_; have HO370 := n1_; have HO375 := n2_; have HO378 := n3_; have HO386 := n4_; have HO389 := n5_; have HO395 := n6_; have HO398 := n7_; have BK361 := n8_; have BK381 := n9_; have BK390 := n10_; have HB := n11_; clear n0_ n1_ n2_ n3_ n4_ n5_ n6_ n7_ n8_ n9_ n10_ n11_; (try clear hb); (try clear hb2); (try clear hk); (try clear hi); (try clear ho0); (try clear ho1)) | ((with_reducible refine gate_dst (N := 10) rfl ?_); refine box_event ?hg (N := 10) ?hd (cs := #[.int .i64 0, .int .i64 0, .slice none 0 0, .slice none 0 0]) (t := 28) ?hr ?_; (case hd => rfl); (case hg => rfl); (case hr => first | (go_simp; done) | (go_simp; rfl)); intro gb401 hg w37 hbox hb; have n0_ := Aside0.mk (Kd.R_below (kr HO367.out) hb); have n1_ := Aside0.mk (Kd.R_below (kr HO370.out) hb); have n2_ := Aside0.mk (Kd.R_below (kr HO375.out) hb); have n3_ := Aside0.mk (Kd.R_below (kr HO378.out) hb); have n4_ := Aside0.mk (Kd.R_below (kr HO386.out) hb); have n5_ := Aside0.mk (Kd.R_below (kr HO389.out) hb); have n6_ := Aside0.mk (Kd.R_below (kr HO395.out) hb); have n7_ := Aside0.mk (Kd.R_below (kr HO398.out) hb); have n8_ := Aside0.mk (blk_below (g := gb361) (o := .cells #[.int .i64 a0_0, .int .i64 a0_1, .slice A0_2 l0_2.length c0_2, .slice A0_3 l0_3.length c0_3] 24 (0, 0)) (bk BK361.out) hb); have n9_ := Aside0.mk (blk_below (g := gb381) (o := .cells #[.int .i64 t371, .int .i64 t372, .slice Ao26 t373.length co26, .slice Ao27 t376.length co27] 28 (0, 0)) (bk BK381.out) hb); have n10_ := Aside0.mk (blk_below (g := gb390) (o := .cells #[.int .i64 t382, .int .i64 t383, .slice Ao34 t384.length co34, .slice Ao35 t387.length co35] 28 (0, 0)) (bk BK390.out) hb); have n11_ := Aside0.mk (below_step (bl3 HB.out GE361.out GE381.out GE390.out) hb); have n12_ := Aside0.mk (hbox); have n13_ := Aside0.mk ((by rw [hg]; exact (below_size (bl3 HB.out GE361.out GE381.out GE390.out)) : w.heap.size ≤ gb401)); have n14_ := Aside0.mk ((by rw [hg]; exact (below_size (bl3 HB.out GE361.out GE381.out GE390.out)) : w.heap.size ≤ gb401)); have n15_ := Aside0.mk ((by rw [hg]; exact Nat.ne_of_lt (blk_lt (g := gb361) (o := .cells #[.int .i64 a0_0, .int .i64 a0_1, .slice A0_2 l0_2.length c0_2, .slice A0_3 l0_3.length c0_3] 24 (0, 0)) (bk BK361.out)) : gb361 ≠ gb401)); have n16_ := Aside0.mk ((by rw [hg]; exact Nat.ne_of_gt (blk_lt (g := gb361) (o := .cells #[.int .i64 a0_0, .int .i64 a0_1, .slice A0_2 l0_2.length c0_2, .slice A0_3 l0_3.length c0_3] 24 (0, 0)) (bk BK361.out)) : gb401 ≠ gb361)); have n17_ := Aside0.mk ((by rw [hg]; exact Nat.ne_of_lt (blk_lt (g := gb381) (o := .cells #[.int .i64 t371, .int .i64 t372, .slice Ao26 t373.length co26, .slice Ao27 t376.length co27] 28 (0, 0)) (bk BK381.out)) : gb381 ≠ gb401)); have n18_ := Aside0.mk ((by rw [hg]; exact Nat.ne_of_gt (blk_lt (g := gb381) (o := .cells #[.int .i64 t371, .int .i64 t372, .slice Ao26 t373.length co26, .slice Ao27 t376.length co27] 28 (0, 0)) (bk BK381.out)) : gb401 ≠ gb381)); have n19_ := Aside0.mk ((by rw [hg]; exact Nat.ne_of_lt (blk_lt (g := gb390) (o := .cells #[.int .i64 t382, .int .i64 t383, .slice Ao34 t384.length co34, .slice Ao35 t387.length co35] 28 (0, 0)) (bk BK390.out)) : gb390 ≠ gb401)); have n20_ := Aside0.mk ((by rw [hg]; exact Nat.ne_of_gt (blk_lt (g := gb390) (o := .cells #[.int .i64 t382, .int .i64 t383, .slice Ao34 t384.length co34, .slice Ao35 t387.length co35] 28 (0, 0)) (bk BK390.out)) : gb401 ≠ gb390)); clear HO367; clear HO370; clear HO375; clear HO378; clear HO386; clear HO389; clear HO395; clear HO398; clear BK361; clear BK381; clear BK390; clear HB; have HO367 := n0_; have HO370 := n1_; have HO375 := n2_; have HO378 := n3_; have HO386 := n4_; have HO389 := n5_; have HO395 := n6_; have HO398 := n7_; have BK361 := n8_; have BK381 := n9_; have BK390 := n10_; have HB := n11_; have BK401 := n12_; have GW401 := n13_; have GE401 := n14_; have NB361_401 := n15_; have NB401_361 := n16_; have NB381_401 := n17_; have NB401_381 := n18_; have NB390_401 := n19_; have NB401_390 := n20_; clear n0_ n1_ n2_ n3_ n4_ n5_ n6_ n7_ n8_ n9_ n10_ n11_ n12_ n13_ n14_ n15_ n16_ n17_ n18_ n19_ n20_; clear hb hbox hg; have hnb38 := NB401_361.out; have hnc38 := NB361_401.out; have hnb39 := NB401_381.out; have hnc39 := NB381_401.out; have hnb40 := NB401_390.out; have hnc40 := NB390_401.out; have hcz41_0 : w37.cell? ⟨gb401, 0, none⟩ = some (.int .i64 0) := (blk_cell BK401.out 0).trans rfl; have hcz41_1 : w37.cell? ⟨gb401, 1, none⟩ = some (.int .i64 0) := (blk_cell BK401.out 1).trans rfl; have hcz41_2 : w37.cell? ⟨gb401, 2, none⟩ = some (.slice none 0 0) := (blk_cell BK401.out 2).trans rfl; have hcz41_3 : w37.cell? ⟨gb401, 3, none⟩ = some (.slice none 0 0) := (blk_cell BK401.out 3).trans rfl; have hfz41_0 := blk_frozen BK401.out 0; have hfz41_1 := blk_frozen BK401.out 1; have hfz41_2 := blk_frozen BK401.out 2; have hfz41_3 := blk_frozen BK401.out 3; obtain ⟨Ao42, co42, eo42⟩ := Kd.R_slice HO395.out; subst eo42; obtain ⟨Ao43, co43, eo43⟩ := Kd.R_slice HO398.out; subst eo43))
   (try simp only [Act.put, List.setIfInBounds_toArray, List.set_cons_zero, List.set_cons_succ])
   go_cut [57] (fun v57 wc => ∃ (kq : Nat) (x57_13 : Bool), v57 = .bool x57_13 ∧ Aside0 (laws_FnExactGetEntry.j0 kq a1 t379 t380 t399 t400 x57_13 a0_0 a0_1 l0_2 l0_3 t371 t372 t373 t376 t382 t383 t384 t387 t391 t392 t393 t396 = some r) ∧ Aside0 (kq ≤ k) ∧ Aside0 (Kd.R k45 45 wc w.heap.size (fun k_ => some k_ ≠ ((.slice Ao27 t376.length co27) : Value).ownBlock ∧ some k_ ≠ ((.slice Ao34 t384.length co34) : Value).ownBlock ∧ some k_ ≠ ((.slice Ao35 t387.length co35) : Value).ownBlock ∧ some k_ ≠ ((.slice Ao42 t393.length co42) : Value).ownBlock ∧ some k_ ≠ ((.slice Ao43 t396.length co43) : Value).ownBlock) (.slice Ao26 t373.length co26) t373) ∧ Aside0 (Kd.R k45 45 wc w.heap.size (fun k_ => some k_ ≠ ((.slice Ao26 t373.length co26) : Value).ownBlock ∧ some k_ ≠ ((.slice Ao34 t384.length co34) : Value).ownBlock ∧ some k_ ≠ ((.slice Ao35 t387.length co35) : Value).ownBlock ∧ some k_ ≠ ((.slice Ao42 t393.length co42) : Value).ownBlock ∧ some k_ ≠ ((.slice Ao43 t396.length co43) : Value).ownBlock) (.slice Ao27 t376.length co27) t376) ∧ Aside0 (Kd.R k45 45 wc w.heap.size (fun k_ => some k_ ≠ ((.slice Ao26 t373.length co26) : Value).ownBlock ∧ some k_ ≠ ((.slice Ao27 t376.length co27) : Value).ownBlock ∧ some k_ ≠ ((.slice Ao35 t387.length co35) : Value).ownBlock ∧ some k_ ≠ ((.slice Ao42 t393.length co42) : Value).ownBlock ∧ some k_ ≠ ((.slice Ao43 t396.length co43) : Value).ownBlock) (.slice Ao34 t384.length co34) t384) ∧ Aside0 (Kd.R k45 45 wc w.heap.size (fun k_ => some k_ ≠ ((.slice Ao26 t373.length co26) : Value).ownBlock ∧ some k_ ≠ ((.slice Ao27 t376.length co27) : Value).ownBlock ∧ some k_ ≠ ((.slice Ao34 t384.length co34) : Value).ownBlock ∧ some k_ ≠ ((.slice Ao42 t393.length co42) : Value).ownBlock ∧ some k_ ≠ ((.slice Ao43 t396.length co43) : Value).ownBlock) (.slice Ao35 t387.length co35) t387) ∧ Aside0 (Kd.R k45 45 wc w.heap.size (fun k_ => some k_ ≠ ((.slice Ao26 t373.length co26) : Value).ownBlock ∧ some k_ ≠ ((.slice Ao27 t376.length co27) : Value).ownBlock ∧ some k_ ≠ ((.slice Ao34 t384.length co34) : Value).ownBlock ∧ some k_ ≠ ((.slice Ao35 t387.length co35) : Value).ownBlock ∧ some k_ ≠ ((.slice Ao43 t396.length co43) : Value).ownBlock) (.slice Ao42 t393.length co42) t393) ∧ Aside0 (Kd.R k45 45 wc w.heap.size (fun k_ => some k_ ≠ ((.slice Ao26 t373.length co26) : Value).ownBlock ∧ some k_ ≠ ((.slice Ao27 t376.length co27) : Value).ownBlock ∧ some k_ ≠ ((.slice Ao34 t384.length co34) : Value).ownBlock ∧ some k_ ≠ ((.slice Ao35 t387.length co35) : Value).ownBlock ∧ some k_ ≠ ((.slice Ao42 t393.length co42) : Value).ownBlock) (.slice Ao43 t396.length co43) t396) ∧ Aside0 (wc.heap[gb361]? = some (.cells #[.int .i64 a0_0, .int .i64 a0_1, (.slice A0_2 l0_2.length c0_2), (.slice A0_3 l0_3.length c0_3)] 24 (0, 0))) ∧ Aside0 (wc.heap[gb381]? = some (.cells #[.int .i64 t371, .int .i64 t372, (.slice Ao26 t373.length co26), (.slice Ao27 t376.length co27)] 28 (0, 0))) ∧ Aside0 (wc.heap[gb390]? = some (.cells #[.int .i64 t382, .int .i64 t383, (.slice Ao34 t384.length co34), (.slice Ao35 t387.length co35)] 28 (0, 0))) ∧ Aside0 (wc.heap[gb401]? = some (.cells #[.int .i64 t391, .int .i64 t392, (.slice Ao42 t393.length co42), (.slice Ao43 t396.length co43)] 28 (0, 0))) ∧ Aside0 (Below w.heap.size w wc))
   case first =>
    have H := HC14.out
    clear HC14
    replace H := Option.bind_eq_some_iff.mp H
    obtain ⟨t402, A440, H⟩ := H
    try dsimp only at H
    have A44 := Aside0.mk A440
    clear A440
    by_cases c45 : t402 = true
    ·subst c45
     have H1 : (if t399.toList = t379.toList then (laws_FnExactGetEntry.j0 k a1 t379 t380 t399 t400 (t400 != t380) a0_0 a0_1 l0_2 l0_3 t371 t372 t373 t376 t382 t383 t384 t387 t391 t392 t393 t396) else (laws_FnExactGetEntry.j0 k a1 t379 t380 t399 t400 true a0_0 a0_1 l0_2 l0_3 t371 t372 t373 t376 t382 t383 t384 t387 t391 t392 t393 t396)) = some r := by rw [if_pos rfl] at H; exact H
     clear H
     have H := H1
     clear H1
     by_cases c46 : t399.toList = t379.toList
     ·rw [if_pos c46] at H
      have c46b0 : (t399.toList == t379.toList) = true := beq_iff_eq.mpr c46
      have c46b1 : (t399.toList != t379.toList) = false := bne_eq_false_iff_eq.mpr c46
      clear c46
      (first | rw [c46b0] | (simp only [i64_w, i32_w]; rw [c46b0]) | skip)
      have H' := Aside0.mk H
      clear H
      have hnb47 := NB401_361.out
      have hnc47 := NB361_401.out
      have hnb48 := NB401_381.out
      have hnc48 := NB381_401.out
      have hnb49 := NB401_390.out
      have hnc49 := NB390_401.out
      have hcz50_0 : w37.cell? ⟨gb401, 0, none⟩ = some (.int .i64 0) := (blk_cell BK401.out 0).trans rfl
      have hcz50_1 : w37.cell? ⟨gb401, 1, none⟩ = some (.int .i64 0) := (blk_cell BK401.out 1).trans rfl
      have hcz50_2 : w37.cell? ⟨gb401, 2, none⟩ = some (.slice none 0 0) := (blk_cell BK401.out 2).trans rfl
      have hcz50_3 : w37.cell? ⟨gb401, 3, none⟩ = some (.slice none 0 0) := (blk_cell BK401.out 3).trans rfl
      have hfz50_0 := blk_frozen BK401.out 0
      have hfz50_1 := blk_frozen BK401.out 1
      have hfz50_2 := blk_frozen BK401.out 2
      have hfz50_3 := blk_frozen BK401.out 3
      have hnb51 := NB381_361.out
      have hnc51 := NB361_381.out
      have hnb52 := NB381_390.out
      have hnc52 := NB390_381.out
      have hcz53_0 : w37.cell? ⟨gb381, 0, none⟩ = some (.int .i64 t371) := (blk_cell BK381.out 0).trans rfl
      have hcz53_1 : w37.cell? ⟨gb381, 1, none⟩ = some (.int .i64 t372) := (blk_cell BK381.out 1).trans rfl
      have hcz53_2 : w37.cell? ⟨gb381, 2, none⟩ = some (.slice Ao26 t373.length co26) := (blk_cell BK381.out 2).trans rfl
      have hcz53_3 : w37.cell? ⟨gb381, 3, none⟩ = some (.slice Ao27 t376.length co27) := (blk_cell BK381.out 3).trans rfl
      have hfz53_0 := blk_frozen BK381.out 0
      have hfz53_1 := blk_frozen BK381.out 1
      have hfz53_2 := blk_frozen BK381.out 2
      have hfz53_3 := blk_frozen BK381.out 3
      go_wp2_with (first | ((with_reducible refine gate_callee (f := 13) rfl ?_); refine goesL_ (some 46) rfl rfl Try.func13 (by kernel_rfl) rfl #[.agg #[.int .i64 t391, .int .i64 t392, .slice Ao42 t393.length co42, .slice Ao43 t396.length co43], .agg #[.int .i64 t371, .int .i64 t372, .slice Ao26 t373.length co26, .slice Ao27 t376.length co27]] rfl (by (try simp only [List.map_toArray, List.map_cons, List.map_nil]); first | done | rfl | (simp only [List.length_drop, List.length_take]; rfl)) ?_; (with_reducible refine (laws_eqSegmented.calls k t391 t392 _ _ t393 _ _ t396 t371 t372 _ _ t373 _ _ t376 true _ ?side1 ?side2 ?side3 ?side4 ?side5 ?side6 ?side7 ?side8 A44.out).mono ?_); (case side1 => refine (Kd.R_reads' (e := 45) (base := w.heap.size) (ok := fun k_ => ((((((some k_ ≠ (.slice Ao43 t396.length co43 : Value).ownBlock ∧ some k_ ≠ (.slice Ao20 t365.length co20 : Value).ownBlock) ∧ some k_ ≠ (.slice Ao21 t368.length co21 : Value).ownBlock) ∧ some k_ ≠ (.slice Ao26 t373.length co26 : Value).ownBlock) ∧ some k_ ≠ (.slice Ao27 t376.length co27 : Value).ownBlock) ∧ some k_ ≠ (.slice Ao34 t384.length co34 : Value).ownBlock) ∧ some k_ ≠ (.slice Ao35 t387.length co35 : Value).ownBlock)) (n := t393.length) (c := co42) ?_).2.2; exact (by (with_reducible repeat (first | apply Kd.R_alloc | apply Kd.R_drewN | apply Kd.R_drew)); exact (Kd.R_mono (Kd.R_far (p := ⟨gb401, 3, none⟩) (Kd.R_far (p := ⟨gb401, 2, none⟩) (Kd.R_far (p := ⟨gb401, 1, none⟩) (Kd.R_far (p := ⟨gb401, 0, none⟩) (Kd.R_types HO395.out BK401.out (by decide)) (fun _ hk => hk.2) (.int .i64 t391)) (fun _ hk => hk.2) (.int .i64 t392)) (fun _ hk => hk.2) (.slice Ao42 t393.length co42)) (fun _ hk => hk.2) (.slice Ao43 t396.length co43)) (fun _ h_ => h_.1)))); (case side2 => exact (Kd.R_reads' HO395.out).2.1); (case side3 => refine (Kd.R_reads' (e := 45) (base := w.heap.size) (ok := fun k_ => ((((((some k_ ≠ (.slice Ao42 t393.length co42 : Value).ownBlock ∧ some k_ ≠ (.slice Ao20 t365.length co20 : Value).ownBlock) ∧ some k_ ≠ (.slice Ao21 t368.length co21 : Value).ownBlock) ∧ some k_ ≠ (.slice Ao26 t373.length co26 : Value).ownBlock) ∧ some k_ ≠ (.slice Ao27 t376.length co27 : Value).ownBlock) ∧ some k_ ≠ (.slice Ao34 t384.length co34 : Value).ownBlock) ∧ some k_ ≠ (.slice Ao35 t387.length co35 : Value).ownBlock)) (n := t396.length) (c := co43) ?_).2.2; exact (by (with_reducible repeat (first | apply Kd.R_alloc | apply Kd.R_drewN | apply Kd.R_drew)); exact (Kd.R_mono (Kd.R_far (p := ⟨gb401, 3, none⟩) (Kd.R_far (p := ⟨gb401, 2, none⟩) (Kd.R_far (p := ⟨gb401, 1, none⟩) (Kd.R_far (p := ⟨gb401, 0, none⟩) (Kd.R_types HO398.out BK401.out (by decide)) (fun _ hk => hk.2) (.int .i64 t391)) (fun _ hk => hk.2) (.int .i64 t392)) (fun _ hk => hk.2) (.slice Ao42 t393.length co42)) (fun _ hk => hk.2) (.slice Ao43 t396.length co43)) (fun _ h_ => h_.1)))); (case side4 => exact (Kd.R_reads' HO398.out).2.1); (case side5 => refine (Kd.R_reads' (e := 45) (base := w.heap.size) (ok := fun k_ => ((((((some k_ ≠ (.slice Ao27 t376.length co27 : Value).ownBlock ∧ some k_ ≠ (.slice Ao20 t365.length co20 : Value).ownBlock) ∧ some k_ ≠ (.slice Ao21 t368.length co21 : Value).ownBlock) ∧ some k_ ≠ (.slice Ao34 t384.length co34 : Value).ownBlock) ∧ some k_ ≠ (.slice Ao35 t387.length co35 : Value).ownBlock) ∧ some k_ ≠ (.slice Ao42 t393.length co42 : Value).ownBlock) ∧ some k_ ≠ (.slice Ao43 t396.length co43 : Value).ownBlock)) (n := t373.length) (c := co26) ?_).2.2; exact (by (with_reducible repeat (first | apply Kd.R_alloc | apply Kd.R_drewN | apply Kd.R_drew)); exact (Kd.R_mono (Kd.R_far (p := ⟨gb401, 3, none⟩) (Kd.R_far (p := ⟨gb401, 2, none⟩) (Kd.R_far (p := ⟨gb401, 1, none⟩) (Kd.R_far (p := ⟨gb401, 0, none⟩) (Kd.R_types HO375.out BK401.out (by decide)) (fun _ hk => hk.2) (.int .i64 t391)) (fun _ hk => hk.2) (.int .i64 t392)) (fun _ hk => hk.2) (.slice Ao42 t393.length co42)) (fun _ hk => hk.2) (.slice Ao43 t396.length co43)) (fun _ h_ => h_.1)))); (case side6 => exact (Kd.R_reads' HO375.out).2.1); (case side7 => refine (Kd.R_reads' (e := 45) (base := w.heap.size) (ok := fun k_ => ((((((some k_ ≠ (.slice Ao26 t373.length co26 : Value).ownBlock ∧ some k_ ≠ (.slice Ao20 t365.length co20 : Value).ownBlock) ∧ some k_ ≠ (.slice Ao21 t368.length co21 : Value).ownBlock) ∧ some k_ ≠ (.slice Ao34 t384.length co34 : Value).ownBlock) ∧ some k_ ≠ (.slice Ao35 t387.length co35 : Value).ownBlock) ∧ some k_ ≠ (.slice Ao42 t393.length co42 : Value).ownBlock) ∧ some k_ ≠ (.slice Ao43 t396.length co43 : Value).ownBlock)) (n := t376.length) (c := co27) ?_).2.2; exact (by (with_reducible repeat (first | apply Kd.R_alloc | apply Kd.R_drewN | apply Kd.R_drew)); exact (Kd.R_mono (Kd.R_far (p := ⟨gb401, 3, none⟩) (Kd.R_far (p := ⟨gb401, 2, none⟩) (Kd.R_far (p := ⟨gb401, 1, none⟩) (Kd.R_far (p := ⟨gb401, 0, none⟩) (Kd.R_types HO378.out BK401.out (by decide)) (fun _ hk => hk.2) (.int .i64 t391)) (fun _ hk => hk.2) (.int .i64 t392)) (fun _ hk => hk.2) (.slice Ao42 t393.length co42)) (fun _ hk => hk.2) (.slice Ao43 t396.length co43)) (fun _ h_ => h_.1)))); (case side8 => exact (Kd.R_reads' HO378.out).2.1); rintro e w54 ⟨rfl, hb⟩; refine ⟨_, rfl, ?_⟩; have n0_ := Aside0.mk (Kd.R_below (by (with_reducible repeat (first | apply Kd.R_alloc | apply Kd.R_drewN | apply Kd.R_drew)); exact (Kd.R_mono (Kd.R_far (p := ⟨gb401, 3, none⟩) (Kd.R_far (p := ⟨gb401, 2, none⟩) (Kd.R_far (p := ⟨gb401, 1, none⟩) (Kd.R_far (p := ⟨gb401, 0, none⟩) (Kd.R_types HO367.out BK401.out (by decide)) (fun _ hk => hk.2) (.int .i64 t391)) (fun _ hk => hk.2) (.int .i64 t392)) (fun _ hk => hk.2) (.slice Ao42 t393.length co42)) (fun _ hk => hk.2) (.slice Ao43 t396.length co43)) (fun _ h_ => h_.1))) hb); have n1_ := Aside0.mk (Kd.R_below (by (with_reducible repeat (first | apply Kd.R_alloc | apply Kd.R_drewN | apply Kd.R_drew)); exact (Kd.R_mono (Kd.R_far (p := ⟨gb401, 3, none⟩) (Kd.R_far (p := ⟨gb401, 2, none⟩) (Kd.R_far (p := ⟨gb401, 1, none⟩) (Kd.R_far (p := ⟨gb401, 0, none⟩) (Kd.R_types HO370.out BK401.out (by decide)) (fun _ hk => hk.2) (.int .i64 t391)) (fun _ hk => hk.2) (.int .i64 t392)) (fun _ hk => hk.2) (.slice Ao42 t393.length co42)) (fun _ hk => hk.2) (.slice Ao43 t396.length co43)) (fun _ h_ => h_.1))) hb); have n2_ := Aside0.mk (Kd.R_below (by (with_reducible repeat (first | apply Kd.R_alloc | apply Kd.R_drewN | apply Kd.R_drew)); exact (Kd.R_mono (Kd.R_far (p := ⟨gb401, 3, none⟩) (Kd.R_far (p := ⟨gb401, 2, none⟩) (Kd.R_far (p := ⟨gb401, 1, none⟩) (Kd.R_far (p := ⟨gb401, 0, none⟩) (Kd.R_types HO375.out BK401.out (by decide)) (fun _ hk => hk.2) (.int .i64 t391)) (fun _ hk => hk.2) (.int .i64 t392)) (fun _ hk => hk.2) (.slice Ao42 t393.length co42)) (fun _ hk => hk.2) (.slice Ao43 t396.length co43)) (fun _ h_ => h_.1))) hb); have n3_ := Aside0.mk (Kd.R_below (by (with_reducible repeat (first | apply Kd.R_alloc | apply Kd.R_drewN | apply Kd.R_drew)); exact (Kd.R_mono (Kd.R_far (p := ⟨gb401, 3, none⟩) (Kd.R_far (p := ⟨gb401, 2, none⟩) (Kd.R_far (p := ⟨gb401, 1, none⟩) (Kd.R_far (p := ⟨gb401, 0, none⟩) (Kd.R_types HO378.out BK401.out (by decide)) (fun _ hk => hk.2) (.int .i64 t391)) (fun _ hk => hk.2) (.int .i64 t392)) (fun _ hk => hk.2) (.slice Ao42 t393.length co42)) (fun _ hk => hk.2) (.slice Ao43 t396.length co43)) (fun _ h_ => h_.1))) hb); have n4_ := Aside0.mk (Kd.R_below (by (with_reducible repeat (first | apply Kd.R_alloc | apply Kd.R_drewN | apply Kd.R_drew)); exact (Kd.R_mono (Kd.R_far (p := ⟨gb401, 3, none⟩) (Kd.R_far (p := ⟨gb401, 2, none⟩) (Kd.R_far (p := ⟨gb401, 1, none⟩) (Kd.R_far (p := ⟨gb401, 0, none⟩) (Kd.R_types HO386.out BK401.out (by decide)) (fun _ hk => hk.2) (.int .i64 t391)) (fun _ hk => hk.2) (.int .i64 t392)) (fun _ hk => hk.2) (.slice Ao42 t393.length co42)) (fun _ hk => hk.2) (.slice Ao43 t396.length co43)) (fun _ h_ => h_.1))) hb); have n5_ := Aside0.mk (Kd.R_below (by (with_reducible repeat (first | apply Kd.R_alloc | apply Kd.R_drewN | apply Kd.R_drew)); exact (Kd.R_mono (Kd.R_far (p := ⟨gb401, 3, none⟩) (Kd.R_far (p := ⟨gb401, 2, none⟩) (Kd.R_far (p := ⟨gb401, 1, none⟩) (Kd.R_far (p := ⟨gb401, 0, none⟩) (Kd.R_types HO389.out BK401.out (by decide)) (fun _ hk => hk.2) (.int .i64 t391)) (fun _ hk => hk.2) (.int .i64 t392)) (fun _ hk => hk.2) (.slice Ao42 t393.length co42)) (fun _ hk => hk.2) (.slice Ao43 t396.length co43)) (fun _ h_ => h_.1))) hb); have n6_ := Aside0.mk (Kd.R_below (by (with_reducible repeat (first | apply Kd.R_alloc | apply Kd.R_drewN | apply Kd.R_drew)); exact (Kd.R_mono (Kd.R_far (p := ⟨gb401, 3, none⟩) (Kd.R_far (p := ⟨gb401, 2, none⟩) (Kd.R_far (p := ⟨gb401, 1, none⟩) (Kd.R_far (p := ⟨gb401, 0, none⟩) (Kd.R_types HO395.out BK401.out (by decide)) (fun _ hk => hk.2) (.int .i64 t391)) (fun _ hk => hk.2) (.int .i64 t392)) (fun _ hk => hk.2) (.slice Ao42 t393.length co42)) (fun _ hk => hk.2) (.slice Ao43 t396.length co43)) (fun _ h_ => h_.1))) hb); have n7_ := Aside0.mk (Kd.R_below (by (with_reducible repeat (first | apply Kd.R_alloc | apply Kd.R_drewN | apply Kd.R_drew)); exact (Kd.R_mono (Kd.R_far (p := ⟨gb401, 3, none⟩) (Kd.R_far (p := ⟨gb401, 2, none⟩) (Kd.R_far (p := ⟨gb401, 1, none⟩) (Kd.R_far (p := ⟨gb401, 0, none⟩) (Kd.R_types HO398.out BK401.out (by decide)) (fun _ hk => hk.2) (.int .i64 t391)) (fun _ hk => hk.2) (.int .i64 t392)) (fun _ hk => hk.2) (.slice Ao42 t393.length co42)) (fun _ hk => hk.2) (.slice Ao43 t396.length co43)) (fun _ h_ => h_.1))) hb); have n8_ := Aside0.mk (blk_below (g := gb361) (o := .cells #[.int .i64 a0_0, .int .i64 a0_1, .slice A0_2 l0_2.length c0_2, .slice A0_3 l0_3.length c0_3] 24 (0, 0)) (by (with_reducible repeat (first | refine blk_drewN ?_ _ | refine blk_drew ?_ | refine blk_alloc ?_ _)); refine blk_far ?_ NB361_401.out _; (with_reducible repeat (first | refine blk_drewN ?_ _ | refine blk_drew ?_ | refine blk_alloc ?_ _)); refine blk_far ?_ NB361_401.out _; (with_reducible repeat (first | refine blk_drewN ?_ _ | refine blk_drew ?_ | refine blk_alloc ?_ _)); refine blk_far ?_ NB361_401.out _; (with_reducible repeat (first | refine blk_drewN ?_ _ | refine blk_drew ?_ | refine blk_alloc ?_ _)); refine blk_far ?_ NB361_401.out _; exact bk BK361.out) hb); have n9_ := Aside0.mk (blk_below (g := gb381) (o := .cells #[.int .i64 t371, .int .i64 t372, .slice Ao26 t373.length co26, .slice Ao27 t376.length co27] 28 (0, 0)) (by (with_reducible repeat (first | refine blk_drewN ?_ _ | refine blk_drew ?_ | refine blk_alloc ?_ _)); refine blk_far ?_ NB381_401.out _; (with_reducible repeat (first | refine blk_drewN ?_ _ | refine blk_drew ?_ | refine blk_alloc ?_ _)); refine blk_far ?_ NB381_401.out _; (with_reducible repeat (first | refine blk_drewN ?_ _ | refine blk_drew ?_ | refine blk_alloc ?_ _)); refine blk_far ?_ NB381_401.out _; (with_reducible repeat (first | refine blk_drewN ?_ _ | refine blk_drew ?_ | refine blk_alloc ?_ _)); refine blk_far ?_ NB381_401.out _; exact bk BK381.out) hb); have n10_ := Aside0.mk (blk_below (g := gb390) (o := .cells #[.int .i64 t382, .int .i64 t383, .slice Ao34 t384.length co34, .slice Ao35 t387.length co35] 28 (0, 0)) (by (with_reducible repeat (first | refine blk_drewN ?_ _ | refine blk_drew ?_ | refine blk_alloc ?_ _)); refine blk_far ?_ NB390_401.out _; (with_reducible repeat (first | refine blk_drewN ?_ _ | refine blk_drew ?_ | refine blk_alloc ?_ _)); refine blk_far ?_ NB390_401.out _; (with_reducible repeat (first | refine blk_drewN ?_ _ | refine blk_drew ?_ | refine blk_alloc ?_ _)); refine blk_far ?_ NB390_401.out _; (with_reducible repeat (first | refine blk_drewN ?_ _ | refine blk_drew ?_ | refine blk_alloc ?_ _)); refine blk_far ?_ NB390_401.out _; exact bk BK390.out) hb); have n11_ := Aside0.mk (blk_below (g := gb401) (o := .cells #[.int .i64 t391, .int .i64 t392, .slice Ao42 t393.length co42, .slice Ao43 t396.length co43] 28 (0, 0)) (by (with_reducible repeat (first | refine blk_drewN ?_ _ | refine blk_drew ?_ | refine blk_alloc ?_ _)); refine blk_put (cs := #[.int .i64 t391, .int .i64 t392, .slice Ao42 t393.length co42, .slice none 0 0]) ?_ 3 _ rfl; (with_reducible repeat (first | refine blk_drewN ?_ _ | refine blk_drew ?_ | refine blk_alloc ?_ _)); refine blk_put (cs := #[.int .i64 t391, .int .i64 t392, .slice none 0 0, .slice none 0 0]) ?_ 2 _ rfl; (with_reducible repeat (first | refine blk_drewN ?_ _ | refine blk_drew ?_ | refine blk_alloc ?_ _)); refine blk_put (cs := #[.int .i64 t391, .int .i64 0, .slice none 0 0, .slice none 0 0]) ?_ 1 _ rfl; (with_reducible repeat (first | refine blk_drewN ?_ _ | refine blk_drew ?_ | refine blk_alloc ?_ _)); refine blk_put (cs := #[.int .i64 0, .int .i64 0, .slice none 0 0, .slice none 0 0]) ?_ 0 _ rfl; exact bk BK401.out) hb); have n12_ := Aside0.mk (below_step (bl4 HB.out GE361.out GE381.out GE390.out GE401.out) hb); clear HO367; clear HO370; clear HO375; clear HO378; clear HO386; clear HO389; clear HO395; clear HO398; clear BK361; clear BK381; clear BK390; clear BK401; clear HB; have HO367 := n0_; have HO370 := n1_; have HO375 := n2_; have HO378 := n3_; have HO386 := n4_; have HO389 := n5_; have HO395 := n6_; have HO398 := n7_; have BK361 := n8_; have BK381 := n9_; have BK390 := n10_; have BK401 := n11_; have HB := n12_; clear n0_ n1_ n2_ n3_ n4_ n5_ n6_ n7_ n8_ n9_ n10_ n11_ n12_; (try clear hb); (try clear hb2); (try clear hk); (try clear hi)))
      go_meet
      case rel => exact ⟨_, ((t400 != t380)), (by first | rfl | (simp; done) | (simp [*]; done)), H', ⟨by first | omega | exact Nat.le_refl _⟩, ⟨by (with_reducible repeat (first | apply Kd.R_alloc | apply Kd.R_drewN | apply Kd.R_drew)); exact Kd.R_mono HO375.out (fun _ hk => ⟨hk.1.1.1.1.1.1, ⟨hk.1.1.1.2, ⟨hk.1.1.2, ⟨hk.1.2, hk.2⟩⟩⟩⟩)⟩, ⟨by (with_reducible repeat (first | apply Kd.R_alloc | apply Kd.R_drewN | apply Kd.R_drew)); exact Kd.R_mono HO378.out (fun _ hk => ⟨hk.1.1.1.1.1.1, ⟨hk.1.1.1.2, ⟨hk.1.1.2, ⟨hk.1.2, hk.2⟩⟩⟩⟩)⟩, ⟨by (with_reducible repeat (first | apply Kd.R_alloc | apply Kd.R_drewN | apply Kd.R_drew)); exact Kd.R_mono HO386.out (fun _ hk => ⟨hk.1.1.1.2, ⟨hk.1.1.2, ⟨hk.1.1.1.1.1.1, ⟨hk.1.2, hk.2⟩⟩⟩⟩)⟩, ⟨by (with_reducible repeat (first | apply Kd.R_alloc | apply Kd.R_drewN | apply Kd.R_drew)); exact Kd.R_mono HO389.out (fun _ hk => ⟨hk.1.1.1.2, ⟨hk.1.1.2, ⟨hk.1.1.1.1.1.1, ⟨hk.1.2, hk.2⟩⟩⟩⟩)⟩, ⟨by (with_reducible repeat (first | apply Kd.R_alloc | apply Kd.R_drewN | apply Kd.R_drew)); exact Kd.R_mono HO395.out (fun _ hk => ⟨hk.1.1.1.2, ⟨hk.1.1.2, ⟨hk.1.2, ⟨hk.2, hk.1.1.1.1.1.1⟩⟩⟩⟩)⟩, ⟨by (with_reducible repeat (first | apply Kd.R_alloc | apply Kd.R_drewN | apply Kd.R_drew)); exact Kd.R_mono HO398.out (fun _ hk => ⟨hk.1.1.1.2, ⟨hk.1.1.2, ⟨hk.1.2, ⟨hk.2, hk.1.1.1.1.1.1⟩⟩⟩⟩)⟩, ⟨bk BK361.out⟩, ⟨bk BK381.out⟩, ⟨bk BK390.out⟩, ⟨bk BK401.out⟩, ⟨bl4 HB.out GE361.out GE381.out GE390.out GE401.out⟩⟩
     ·rw [if_neg c46] at H
      have c46b0 : (t399.toList == t379.toList) = false := beq_eq_false_iff_ne.mpr c46
      have c46b1 : (t399.toList != t379.toList) = true := bne_iff_ne.mpr c46
      (first | rw [c46b0] | (simp only [i64_w, i32_w]; rw [c46b0]) | skip)
      have H' := Aside0.mk H
      clear H
      have hnb55 := NB401_361.out
      have hnc55 := NB361_401.out
      have hnb56 := NB401_381.out
      have hnc56 := NB381_401.out
      have hnb57 := NB401_390.out
      have hnc57 := NB390_401.out
      have hcz58_0 : w37.cell? ⟨gb401, 0, none⟩ = some (.int .i64 0) := (blk_cell BK401.out 0).trans rfl
      have hcz58_1 : w37.cell? ⟨gb401, 1, none⟩ = some (.int .i64 0) := (blk_cell BK401.out 1).trans rfl
      have hcz58_2 : w37.cell? ⟨gb401, 2, none⟩ = some (.slice none 0 0) := (blk_cell BK401.out 2).trans rfl
      have hcz58_3 : w37.cell? ⟨gb401, 3, none⟩ = some (.slice none 0 0) := (blk_cell BK401.out 3).trans rfl
      have hfz58_0 := blk_frozen BK401.out 0
      have hfz58_1 := blk_frozen BK401.out 1
      have hfz58_2 := blk_frozen BK401.out 2
      have hfz58_3 := blk_frozen BK401.out 3
      have hnb59 := NB381_361.out
      have hnc59 := NB361_381.out
      have hnb60 := NB381_390.out
      have hnc60 := NB390_381.out
      have hcz61_0 : w37.cell? ⟨gb381, 0, none⟩ = some (.int .i64 t371) := (blk_cell BK381.out 0).trans rfl
      have hcz61_1 : w37.cell? ⟨gb381, 1, none⟩ = some (.int .i64 t372) := (blk_cell BK381.out 1).trans rfl
      have hcz61_2 : w37.cell? ⟨gb381, 2, none⟩ = some (.slice Ao26 t373.length co26) := (blk_cell BK381.out 2).trans rfl
      have hcz61_3 : w37.cell? ⟨gb381, 3, none⟩ = some (.slice Ao27 t376.length co27) := (blk_cell BK381.out 3).trans rfl
      have hfz61_0 := blk_frozen BK381.out 0
      have hfz61_1 := blk_frozen BK381.out 1
      have hfz61_2 := blk_frozen BK381.out 2
      have hfz61_3 := blk_frozen BK381.out 3
      go_wp2_with (first | ((with_reducible refine gate_callee (f := 13) rfl ?_); refine goesL_ (some 46) rfl rfl Try.func13 (by kernel_rfl) rfl #[.agg #[.int .i64 t391, .int .i64 t392, .slice Ao42 t393.length co42, .slice Ao43 t396.length co43], .agg #[.int .i64 t371, .int .i64 t372, .slice Ao26 t373.length co26, .slice Ao27 t376.length co27]] rfl (by (try simp only [List.map_toArray, List.map_cons, List.map_nil]); first | done | rfl | (simp only [List.length_drop, List.length_take]; rfl)) ?_; (with_reducible refine (laws_eqSegmented.calls k t391 t392 _ _ t393 _ _ t396 t371 t372 _ _ t373 _ _ t376 true _ ?side1 ?side2 ?side3 ?side4 ?side5 ?side6 ?side7 ?side8 A44.out).mono ?_); (case side1 => refine (Kd.R_reads' (e := 45) (base := w.heap.size) (ok := fun k_ => ((((((some k_ ≠ (.slice Ao43 t396.length co43 : Value).ownBlock ∧ some k_ ≠ (.slice Ao20 t365.length co20 : Value).ownBlock) ∧ some k_ ≠ (.slice Ao21 t368.length co21 : Value).ownBlock) ∧ some k_ ≠ (.slice Ao26 t373.length co26 : Value).ownBlock) ∧ some k_ ≠ (.slice Ao27 t376.length co27 : Value).ownBlock) ∧ some k_ ≠ (.slice Ao34 t384.length co34 : Value).ownBlock) ∧ some k_ ≠ (.slice Ao35 t387.length co35 : Value).ownBlock)) (n := t393.length) (c := co42) ?_).2.2; exact (by (with_reducible repeat (first | apply Kd.R_alloc | apply Kd.R_drewN | apply Kd.R_drew)); exact (Kd.R_mono (Kd.R_far (p := ⟨gb401, 3, none⟩) (Kd.R_far (p := ⟨gb401, 2, none⟩) (Kd.R_far (p := ⟨gb401, 1, none⟩) (Kd.R_far (p := ⟨gb401, 0, none⟩) (Kd.R_types HO395.out BK401.out (by decide)) (fun _ hk => hk.2) (.int .i64 t391)) (fun _ hk => hk.2) (.int .i64 t392)) (fun _ hk => hk.2) (.slice Ao42 t393.length co42)) (fun _ hk => hk.2) (.slice Ao43 t396.length co43)) (fun _ h_ => h_.1)))); (case side2 => exact (Kd.R_reads' HO395.out).2.1); (case side3 => refine (Kd.R_reads' (e := 45) (base := w.heap.size) (ok := fun k_ => ((((((some k_ ≠ (.slice Ao42 t393.length co42 : Value).ownBlock ∧ some k_ ≠ (.slice Ao20 t365.length co20 : Value).ownBlock) ∧ some k_ ≠ (.slice Ao21 t368.length co21 : Value).ownBlock) ∧ some k_ ≠ (.slice Ao26 t373.length co26 : Value).ownBlock) ∧ some k_ ≠ (.slice Ao27 t376.length co27 : Value).ownBlock) ∧ some k_ ≠ (.slice Ao34 t384.length co34 : Value).ownBlock) ∧ some k_ ≠ (.slice Ao35 t387.length co35 : Value).ownBlock)) (n := t396.length) (c := co43) ?_).2.2; exact (by (with_reducible repeat (first | apply Kd.R_alloc | apply Kd.R_drewN | apply Kd.R_drew)); exact (Kd.R_mono (Kd.R_far (p := ⟨gb401, 3, none⟩) (Kd.R_far (p := ⟨gb401, 2, none⟩) (Kd.R_far (p := ⟨gb401, 1, none⟩) (Kd.R_far (p := ⟨gb401, 0, none⟩) (Kd.R_types HO398.out BK401.out (by decide)) (fun _ hk => hk.2) (.int .i64 t391)) (fun _ hk => hk.2) (.int .i64 t392)) (fun _ hk => hk.2) (.slice Ao42 t393.length co42)) (fun _ hk => hk.2) (.slice Ao43 t396.length co43)) (fun _ h_ => h_.1)))); (case side4 => exact (Kd.R_reads' HO398.out).2.1); (case side5 => refine (Kd.R_reads' (e := 45) (base := w.heap.size) (ok := fun k_ => ((((((some k_ ≠ (.slice Ao27 t376.length co27 : Value).ownBlock ∧ some k_ ≠ (.slice Ao20 t365.length co20 : Value).ownBlock) ∧ some k_ ≠ (.slice Ao21 t368.length co21 : Value).ownBlock) ∧ some k_ ≠ (.slice Ao34 t384.length co34 : Value).ownBlock) ∧ some k_ ≠ (.slice Ao35 t387.length co35 : Value).ownBlock) ∧ some k_ ≠ (.slice Ao42 t393.length co42 : Value).ownBlock) ∧ some k_ ≠ (.slice Ao43 t396.length co43 : Value).ownBlock)) (n := t373.length) (c := co26) ?_).2.2; exact (by (with_reducible repeat (first | apply Kd.R_alloc | apply Kd.R_drewN | apply Kd.R_drew)); exact (Kd.R_mono (Kd.R_far (p := ⟨gb401, 3, none⟩) (Kd.R_far (p := ⟨gb401, 2, none⟩) (Kd.R_far (p := ⟨gb401, 1, none⟩) (Kd.R_far (p := ⟨gb401, 0, none⟩) (Kd.R_types HO375.out BK401.out (by decide)) (fun _ hk => hk.2) (.int .i64 t391)) (fun _ hk => hk.2) (.int .i64 t392)) (fun _ hk => hk.2) (.slice Ao42 t393.length co42)) (fun _ hk => hk.2) (.slice Ao43 t396.length co43)) (fun _ h_ => h_.1)))); (case side6 => exact (Kd.R_reads' HO375.out).2.1); (case side7 => refine (Kd.R_reads' (e := 45) (base := w.heap.size) (ok := fun k_ => ((((((some k_ ≠ (.slice Ao26 t373.length co26 : Value).ownBlock ∧ some k_ ≠ (.slice Ao20 t365.length co20 : Value).ownBlock) ∧ some k_ ≠ (.slice Ao21 t368.length co21 : Value).ownBlock) ∧ some k_ ≠ (.slice Ao34 t384.length co34 : Value).ownBlock) ∧ some k_ ≠ (.slice Ao35 t387.length co35 : Value).ownBlock) ∧ some k_ ≠ (.slice Ao42 t393.length co42 : Value).ownBlock) ∧ some k_ ≠ (.slice Ao43 t396.length co43 : Value).ownBlock)) (n := t376.length) (c := co27) ?_).2.2; exact (by (with_reducible repeat (first | apply Kd.R_alloc | apply Kd.R_drewN | apply Kd.R_drew)); exact (Kd.R_mono (Kd.R_far (p := ⟨gb401, 3, none⟩) (Kd.R_far (p := ⟨gb401, 2, none⟩) (Kd.R_far (p := ⟨gb401, 1, none⟩) (Kd.R_far (p := ⟨gb401, 0, none⟩) (Kd.R_types HO378.out BK401.out (by decide)) (fun _ hk => hk.2) (.int .i64 t391)) (fun _ hk => hk.2) (.int .i64 t392)) (fun _ hk => hk.2) (.slice Ao42 t393.length co42)) (fun _ hk => hk.2) (.slice Ao43 t396.length co43)) (fun _ h_ => h_.1)))); (case side8 => exact (Kd.R_reads' HO378.out).2.1); rintro e w62 ⟨rfl, hb⟩; refine ⟨_, rfl, ?_⟩; have n0_ := Aside0.mk (Kd.R_below (by (with_reducible repeat (first | apply Kd.R_alloc | apply Kd.R_drewN | apply Kd.R_drew)); exact (Kd.R_mono (Kd.R_far (p := ⟨gb401, 3, none⟩) (Kd.R_far (p := ⟨gb401, 2, none⟩) (Kd.R_far (p := ⟨gb401, 1, none⟩) (Kd.R_far (p := ⟨gb401, 0, none⟩) (Kd.R_types HO367.out BK401.out (by decide)) (fun _ hk => hk.2) (.int .i64 t391)) (fun _ hk => hk.2) (.int .i64 t392)) (fun _ hk => hk.2) (.slice Ao42 t393.length co42)) (fun _ hk => hk.2) (.slice Ao43 t396.length co43)) (fun _ h_ => h_.1))) hb); have n1_ := Aside0.mk (Kd.R_below (by (with_reducible repeat (first | apply Kd.R_alloc | apply Kd.R_drewN | apply Kd.R_drew)); exact (Kd.R_mono (Kd.R_far (p := ⟨gb401, 3, none⟩) (Kd.R_far (p := ⟨gb401, 2, none⟩) (Kd.R_far (p := ⟨gb401, 1, none⟩) (Kd.R_far (p := ⟨gb401, 0, none⟩) (Kd.R_types HO370.out BK401.out (by decide)) (fun _ hk => hk.2) (.int .i64 t391)) (fun _ hk => hk.2) (.int .i64 t392)) (fun _ hk => hk.2) (.slice Ao42 t393.length co42)) (fun _ hk => hk.2) (.slice Ao43 t396.length co43)) (fun _ h_ => h_.1))) hb); have n2_ := Aside0.mk (Kd.R_below (by (with_reducible repeat (first | apply Kd.R_alloc | apply Kd.R_drewN | apply Kd.R_drew)); exact (Kd.R_mono (Kd.R_far (p := ⟨gb401, 3, none⟩) (Kd.R_far (p := ⟨gb401, 2, none⟩) (Kd.R_far (p := ⟨gb401, 1, none⟩) (Kd.R_far (p := ⟨gb401, 0, none⟩) (Kd.R_types HO375.out BK401.out (by decide)) (fun _ hk => hk.2) (.int .i64 t391)) (fun _ hk => hk.2) (.int .i64 t392)) (fun _ hk => hk.2) (.slice Ao42 t393.length co42)) (fun _ hk => hk.2) (.slice Ao43 t396.length co43)) (fun _ h_ => h_.1))) hb); have n3_ := Aside0.mk (Kd.R_below (by (with_reducible repeat (first | apply Kd.R_alloc | apply Kd.R_drewN | apply Kd.R_drew)); exact (Kd.R_mono (Kd.R_far (p := ⟨gb401, 3, none⟩) (Kd.R_far (p := ⟨gb401, 2, none⟩) (Kd.R_far (p := ⟨gb401, 1, none⟩) (Kd.R_far (p := ⟨gb401, 0, none⟩) (Kd.R_types HO378.out BK401.out (by decide)) (fun _ hk => hk.2) (.int .i64 t391)) (fun _ hk => hk.2) (.int .i64 t392)) (fun _ hk => hk.2) (.slice Ao42 t393.length co42)) (fun _ hk => hk.2) (.slice Ao43 t396.length co43)) (fun _ h_ => h_.1))) hb); have n4_ := Aside0.mk (Kd.R_below (by (with_reducible repeat (first | apply Kd.R_alloc | apply Kd.R_drewN | apply Kd.R_drew)); exact (Kd.R_mono (Kd.R_far (p := ⟨gb401, 3, none⟩) (Kd.R_far (p := ⟨gb401, 2, none⟩) (Kd.R_far (p := ⟨gb401, 1, none⟩) (Kd.R_far (p := ⟨gb401, 0, none⟩) (Kd.R_types HO386.out BK401.out (by decide)) (fun _ hk => hk.2) (.int .i64 t391)) (fun _ hk => hk.2) (.int .i64 t392)) (fun _ hk => hk.2) (.slice Ao42 t393.length co42)) (fun _ hk => hk.2) (.slice Ao43 t396.length co43)) (fun _ h_ => h_.1))) hb); have n5_ := Aside0.mk (Kd.R_below (by (with_reducible repeat (first | apply Kd.R_alloc | apply Kd.R_drewN | apply Kd.R_drew)); exact (Kd.R_mono (Kd.R_far (p := ⟨gb401, 3, none⟩) (Kd.R_far (p := ⟨gb401, 2, none⟩) (Kd.R_far (p := ⟨gb401, 1, none⟩) (Kd.R_far (p := ⟨gb401, 0, none⟩) (Kd.R_types HO389.out BK401.out (by decide)) (fun _ hk => hk.2) (.int .i64 t391)) (fun _ hk => hk.2) (.int .i64 t392)) (fun _ hk => hk.2) (.slice Ao42 t393.length co42)) (fun _ hk => hk.2) (.slice Ao43 t396.length co43)) (fun _ h_ => h_.1))) hb); have n6_ := Aside0.mk (Kd.R_below (by (with_reducible repeat (first | apply Kd.R_alloc | apply Kd.R_drewN | apply Kd.R_drew)); exact (Kd.R_mono (Kd.R_far (p := ⟨gb401, 3, none⟩) (Kd.R_far (p := ⟨gb401, 2, none⟩) (Kd.R_far (p := ⟨gb401, 1, none⟩) (Kd.R_far (p := ⟨gb401, 0, none⟩) (Kd.R_types HO395.out BK401.out (by decide)) (fun _ hk => hk.2) (.int .i64 t391)) (fun _ hk => hk.2) (.int .i64 t392)) (fun _ hk => hk.2) (.slice Ao42 t393.length co42)) (fun _ hk => hk.2) (.slice Ao43 t396.length co43)) (fun _ h_ => h_.1))) hb); have n7_ := Aside0.mk (Kd.R_below (by (with_reducible repeat (first | apply Kd.R_alloc | apply Kd.R_drewN | apply Kd.R_drew)); exact (Kd.R_mono (Kd.R_far (p := ⟨gb401, 3, none⟩) (Kd.R_far (p := ⟨gb401, 2, none⟩) (Kd.R_far (p := ⟨gb401, 1, none⟩) (Kd.R_far (p := ⟨gb401, 0, none⟩) (Kd.R_types HO398.out BK401.out (by decide)) (fun _ hk => hk.2) (.int .i64 t391)) (fun _ hk => hk.2) (.int .i64 t392)) (fun _ hk => hk.2) (.slice Ao42 t393.length co42)) (fun _ hk => hk.2) (.slice Ao43 t396.length co43)) (fun _ h_ => h_.1))) hb); have n8_ := Aside0.mk (blk_below (g := gb361) (o := .cells #[.int .i64 a0_0, .int .i64 a0_1, .slice A0_2 l0_2.length c0_2, .slice A0_3 l0_3.length c0_3] 24 (0, 0)) (by (with_reducible repeat (first | refine blk_drewN ?_ _ | refine blk_drew ?_ | refine blk_alloc ?_ _)); refine blk_far ?_ NB361_401.out _; (with_reducible repeat (first | refine blk_drewN ?_ _ | refine blk_drew ?_ | refine blk_alloc ?_ _)); refine blk_far ?_ NB361_401.out _; (with_reducible repeat (first | refine blk_drewN ?_ _ | refine blk_drew ?_ | refine blk_alloc ?_ _)); refine blk_far ?_ NB361_401.out _; (with_reducible repeat (first | refine blk_drewN ?_ _ | refine blk_drew ?_ | refine blk_alloc ?_ _)); refine blk_far ?_ NB361_401.out _; exact bk BK361.out) hb); have n9_ := Aside0.mk (blk_below (g := gb381) (o := .cells #[.int .i64 t371, .int .i64 t372, .slice Ao26 t373.length co26, .slice Ao27 t376.length co27] 28 (0, 0)) (by (with_reducible repeat (first | refine blk_drewN ?_ _ | refine blk_drew ?_ | refine blk_alloc ?_ _)); refine blk_far ?_ NB381_401.out _; (with_reducible repeat (first | refine blk_drewN ?_ _ | refine blk_drew ?_ | refine blk_alloc ?_ _)); refine blk_far ?_ NB381_401.out _; (with_reducible repeat (first | refine blk_drewN ?_ _ | refine blk_drew ?_ | refine blk_alloc ?_ _)); refine blk_far ?_ NB381_401.out _; (with_reducible repeat (first | refine blk_drewN ?_ _ | refine blk_drew ?_ | refine blk_alloc ?_ _)); refine blk_far ?_ NB381_401.out _; exact bk BK381.out) hb); have n10_ := Aside0.mk (blk_below (g := gb390) (o := .cells #[.int .i64 t382, .int .i64 t383, .slice Ao34 t384.length co34, .slice Ao35 t387.length co35] 28 (0, 0)) (by (with_reducible repeat (first | refine blk_drewN ?_ _ | refine blk_drew ?_ | refine blk_alloc ?_ _)); refine blk_far ?_ NB390_401.out _; (with_reducible repeat (first | refine blk_drewN ?_ _ | refine blk_drew ?_ | refine blk_alloc ?_ _)); refine blk_far ?_ NB390_401.out _; (with_reducible repeat (first | refine blk_drewN ?_ _ | refine blk_drew ?_ | refine blk_alloc ?_ _)); refine blk_far ?_ NB390_401.out _; (with_reducible repeat (first | refine blk_drewN ?_ _ | refine blk_drew ?_ | refine blk_alloc ?_ _)); refine blk_far ?_ NB390_401.out _; exact bk BK390.out) hb); have n11_ := Aside0.mk (blk_below (g := gb401) (o := .cells #[.int .i64 t391, .int .i64 t392, .slice Ao42 t393.length co42, .slice Ao43 t396.length co43] 28 (0, 0)) (by (with_reducible repeat (first | refine blk_drewN ?_ _ | refine blk_drew ?_ | refine blk_alloc ?_ _)); refine blk_put (cs := #[.int .i64 t391, .int .i64 t392, .slice Ao42 t393.length co42, .slice none 0 0]) ?_ 3 _ rfl; (with_reducible repeat (first | refine blk_drewN ?_ _ | refine blk_drew ?_ | refine blk_alloc ?_ _)); refine blk_put (cs := #[.int .i64 t391, .int .i64 t392, .slice none 0 0, .slice none 0 0]) ?_ 2 _ rfl; (with_reducible repeat (first | refine blk_drewN ?_ _ | refine blk_drew ?_ | refine blk_alloc ?_ _)); refine blk_put (cs := #[.int .i64 t391, .int .i64 0, .slice none 0 0, .slice none 0 0]) ?_ 1 _ rfl; (with_reducible repeat (first | refine blk_drewN ?_ _ | refine blk_drew ?_ | refine blk_alloc ?_ _)); refine blk_put (cs := #[.int .i64 0, .int .i64 0, .slice none 0 0, .slice none 0 0]) ?_ 0 _ rfl; exact bk BK401.out) hb); have n12_ := Aside0.mk (below_step (bl4 HB.out GE361.out GE381.out GE390.out GE401.out) hb); clear HO367; clear HO370; clear HO375; clear HO378; clear HO386; clear HO389; clear HO395; clear HO398; clear BK361; clear BK381; clear BK390; clear BK401; clear HB; have HO367 := n0_; have HO370 := n1_; have HO375 := n2_; have HO378 := n3_; have HO386 := n4_; have HO389 := n5_; have HO395 := n6_; have HO398 := n7_; have BK361 := n8_; have BK381 := n9_; have BK390 := n10_; have BK401 := n11_; have HB := n12_; clear n0_ n1_ n2_ n3_ n4_ n5_ n6_ n7_ n8_ n9_ n10_ n11_ n12_; (try clear hb); (try clear hb2); (try clear hk); (try clear hi)))
      go_meet
      case rel => exact ⟨_, (true), (by first | rfl | (simp; done) | (simp [*]; done)), H', ⟨by first | omega | exact Nat.le_refl _⟩, ⟨by (with_reducible repeat (first | apply Kd.R_alloc | apply Kd.R_drewN | apply Kd.R_drew)); exact Kd.R_mono HO375.out (fun _ hk => ⟨hk.1.1.1.1.1.1, ⟨hk.1.1.1.2, ⟨hk.1.1.2, ⟨hk.1.2, hk.2⟩⟩⟩⟩)⟩, ⟨by (with_reducible repeat (first | apply Kd.R_alloc | apply Kd.R_drewN | apply Kd.R_drew)); exact Kd.R_mono HO378.out (fun _ hk => ⟨hk.1.1.1.1.1.1, ⟨hk.1.1.1.2, ⟨hk.1.1.2, ⟨hk.1.2, hk.2⟩⟩⟩⟩)⟩, ⟨by (with_reducible repeat (first | apply Kd.R_alloc | apply Kd.R_drewN | apply Kd.R_drew)); exact Kd.R_mono HO386.out (fun _ hk => ⟨hk.1.1.1.2, ⟨hk.1.1.2, ⟨hk.1.1.1.1.1.1, ⟨hk.1.2, hk.2⟩⟩⟩⟩)⟩, ⟨by (with_reducible repeat (first | apply Kd.R_alloc | apply Kd.R_drewN | apply Kd.R_drew)); exact Kd.R_mono HO389.out (fun _ hk => ⟨hk.1.1.1.2, ⟨hk.1.1.2, ⟨hk.1.1.1.1.1.1, ⟨hk.1.2, hk.2⟩⟩⟩⟩)⟩, ⟨by (with_reducible repeat (first | apply Kd.R_alloc | apply Kd.R_drewN | apply Kd.R_drew)); exact Kd.R_mono HO395.out (fun _ hk => ⟨hk.1.1.1.2, ⟨hk.1.1.2, ⟨hk.1.2, ⟨hk.2, hk.1.1.1.1.1.1⟩⟩⟩⟩)⟩, ⟨by (with_reducible repeat (first | apply Kd.R_alloc | apply Kd.R_drewN | apply Kd.R_drew)); exact Kd.R_mono HO398.out (fun _ hk => ⟨hk.1.1.1.2, ⟨hk.1.1.2, ⟨hk.1.2, ⟨hk.2, hk.1.1.1.1.1.1⟩⟩⟩⟩)⟩, ⟨bk BK361.out⟩, ⟨bk BK381.out⟩, ⟨bk BK390.out⟩, ⟨bk BK401.out⟩, ⟨bl4 HB.out GE361.out GE381.out GE390.out GE401.out⟩⟩
    ·replace c45 := Bool.eq_false_iff.mpr c45
     subst c45
     have H1 : (laws_FnExactGetEntry.j0 k a1 t379 t380 t399 t400 true a0_0 a0_1 l0_2 l0_3 t371 t372 t373 t376 t382 t383 t384 t387 t391 t392 t393 t396) = some r := by rw [if_neg (show ¬ (false = true) by decide)] at H; exact H
     clear H
     have H := H1
     clear H1
     have H' := Aside0.mk H
     clear H
     have hnb63 := NB401_361.out
     have hnc63 := NB361_401.out
     have hnb64 := NB401_381.out
     have hnc64 := NB381_401.out
     have hnb65 := NB401_390.out
     have hnc65 := NB390_401.out
     have hcz66_0 : w37.cell? ⟨gb401, 0, none⟩ = some (.int .i64 0) := (blk_cell BK401.out 0).trans rfl
     have hcz66_1 : w37.cell? ⟨gb401, 1, none⟩ = some (.int .i64 0) := (blk_cell BK401.out 1).trans rfl
     have hcz66_2 : w37.cell? ⟨gb401, 2, none⟩ = some (.slice none 0 0) := (blk_cell BK401.out 2).trans rfl
     have hcz66_3 : w37.cell? ⟨gb401, 3, none⟩ = some (.slice none 0 0) := (blk_cell BK401.out 3).trans rfl
     have hfz66_0 := blk_frozen BK401.out 0
     have hfz66_1 := blk_frozen BK401.out 1
     have hfz66_2 := blk_frozen BK401.out 2
     have hfz66_3 := blk_frozen BK401.out 3
     have hnb67 := NB381_361.out
     have hnc67 := NB361_381.out
     have hnb68 := NB381_390.out
     have hnc68 := NB390_381.out
     have hcz69_0 : w37.cell? ⟨gb381, 0, none⟩ = some (.int .i64 t371) := (blk_cell BK381.out 0).trans rfl
     have hcz69_1 : w37.cell? ⟨gb381, 1, none⟩ = some (.int .i64 t372) := (blk_cell BK381.out 1).trans rfl
     have hcz69_2 : w37.cell? ⟨gb381, 2, none⟩ = some (.slice Ao26 t373.length co26) := (blk_cell BK381.out 2).trans rfl
     have hcz69_3 : w37.cell? ⟨gb381, 3, none⟩ = some (.slice Ao27 t376.length co27) := (blk_cell BK381.out 3).trans rfl
     have hfz69_0 := blk_frozen BK381.out 0
     have hfz69_1 := blk_frozen BK381.out 1
     have hfz69_2 := blk_frozen BK381.out 2
     have hfz69_3 := blk_frozen BK381.out 3
     go_wp2_with (first | ((with_reducible refine gate_callee (f := 13) rfl ?_); refine goesL_ (some 46) rfl rfl Try.func13 (by kernel_rfl) rfl #[.agg #[.int .i64 t391, .int .i64 t392, .slice Ao42 t393.length co42, .slice Ao43 t396.length co43], .agg #[.int .i64 t371, .int .i64 t372, .slice Ao26 t373.length co26, .slice Ao27 t376.length co27]] rfl (by (try simp only [List.map_toArray, List.map_cons, List.map_nil]); first | done | rfl | (simp only [List.length_drop, List.length_take]; rfl)) ?_; (with_reducible refine (laws_eqSegmented.calls k t391 t392 _ _ t393 _ _ t396 t371 t372 _ _ t373 _ _ t376 false _ ?side1 ?side2 ?side3 ?side4 ?side5 ?side6 ?side7 ?side8 A44.out).mono ?_); (case side1 => refine (Kd.R_reads' (e := 45) (base := w.heap.size) (ok := fun k_ => ((((((some k_ ≠ (.slice Ao43 t396.length co43 : Value).ownBlock ∧ some k_ ≠ (.slice Ao20 t365.length co20 : Value).ownBlock) ∧ some k_ ≠ (.slice Ao21 t368.length co21 : Value).ownBlock) ∧ some k_ ≠ (.slice Ao26 t373.length co26 : Value).ownBlock) ∧ some k_ ≠ (.slice Ao27 t376.length co27 : Value).ownBlock) ∧ some k_ ≠ (.slice Ao34 t384.length co34 : Value).ownBlock) ∧ some k_ ≠ (.slice Ao35 t387.length co35 : Value).ownBlock)) (n := t393.length) (c := co42) ?_).2.2; exact (by (with_reducible repeat (first | apply Kd.R_alloc | apply Kd.R_drewN | apply Kd.R_drew)); exact (Kd.R_mono (Kd.R_far (p := ⟨gb401, 3, none⟩) (Kd.R_far (p := ⟨gb401, 2, none⟩) (Kd.R_far (p := ⟨gb401, 1, none⟩) (Kd.R_far (p := ⟨gb401, 0, none⟩) (Kd.R_types HO395.out BK401.out (by decide)) (fun _ hk => hk.2) (.int .i64 t391)) (fun _ hk => hk.2) (.int .i64 t392)) (fun _ hk => hk.2) (.slice Ao42 t393.length co42)) (fun _ hk => hk.2) (.slice Ao43 t396.length co43)) (fun _ h_ => h_.1)))); (case side2 => exact (Kd.R_reads' HO395.out).2.1); (case side3 => refine (Kd.R_reads' (e := 45) (base := w.heap.size) (ok := fun k_ => ((((((some k_ ≠ (.slice Ao42 t393.length co42 : Value).ownBlock ∧ some k_ ≠ (.slice Ao20 t365.length co20 : Value).ownBlock) ∧ some k_ ≠ (.slice Ao21 t368.length co21 : Value).ownBlock) ∧ some k_ ≠ (.slice Ao26 t373.length co26 : Value).ownBlock) ∧ some k_ ≠ (.slice Ao27 t376.length co27 : Value).ownBlock) ∧ some k_ ≠ (.slice Ao34 t384.length co34 : Value).ownBlock) ∧ some k_ ≠ (.slice Ao35 t387.length co35 : Value).ownBlock)) (n := t396.length) (c := co43) ?_).2.2; exact (by (with_reducible repeat (first | apply Kd.R_alloc | apply Kd.R_drewN | apply Kd.R_drew)); exact (Kd.R_mono (Kd.R_far (p := ⟨gb401, 3, none⟩) (Kd.R_far (p := ⟨gb401, 2, none⟩) (Kd.R_far (p := ⟨gb401, 1, none⟩) (Kd.R_far (p := ⟨gb401, 0, none⟩) (Kd.R_types HO398.out BK401.out (by decide)) (fun _ hk => hk.2) (.int .i64 t391)) (fun _ hk => hk.2) (.int .i64 t392)) (fun _ hk => hk.2) (.slice Ao42 t393.length co42)) (fun _ hk => hk.2) (.slice Ao43 t396.length co43)) (fun _ h_ => h_.1)))); (case side4 => exact (Kd.R_reads' HO398.out).2.1); (case side5 => refine (Kd.R_reads' (e := 45) (base := w.heap.size) (ok := fun k_ => ((((((some k_ ≠ (.slice Ao27 t376.length co27 : Value).ownBlock ∧ some k_ ≠ (.slice Ao20 t365.length co20 : Value).ownBlock) ∧ some k_ ≠ (.slice Ao21 t368.length co21 : Value).ownBlock) ∧ some k_ ≠ (.slice Ao34 t384.length co34 : Value).ownBlock) ∧ some k_ ≠ (.slice Ao35 t387.length co35 : Value).ownBlock) ∧ some k_ ≠ (.slice Ao42 t393.length co42 : Value).ownBlock) ∧ some k_ ≠ (.slice Ao43 t396.length co43 : Value).ownBlock)) (n := t373.length) (c := co26) ?_).2.2; exact (by (with_reducible repeat (first | apply Kd.R_alloc | apply Kd.R_drewN | apply Kd.R_drew)); exact (Kd.R_mono (Kd.R_far (p := ⟨gb401, 3, none⟩) (Kd.R_far (p := ⟨gb401, 2, none⟩) (Kd.R_far (p := ⟨gb401, 1, none⟩) (Kd.R_far (p := ⟨gb401, 0, none⟩) (Kd.R_types HO375.out BK401.out (by decide)) (fun _ hk => hk.2) (.int .i64 t391)) (fun _ hk => hk.2) (.int .i64 t392)) (fun _ hk => hk.2) (.slice Ao42 t393.length co42)) (fun _ hk => hk.2) (.slice Ao43 t396.length co43)) (fun _ h_ => h_.1)))); (case side6 => exact (Kd.R_reads' HO375.out).2.1); (case side7 => refine (Kd.R_reads' (e := 45) (base := w.heap.size) (ok := fun k_ => ((((((some k_ ≠ (.slice Ao26 t373.length co26 : Value).ownBlock ∧ some k_ ≠ (.slice Ao20 t365.length co20 : Value).ownBlock) ∧ some k_ ≠ (.slice Ao21 t368.length co21 : Value).ownBlock) ∧ some k_ ≠ (.slice Ao34 t384.length co34 : Value).ownBlock) ∧ some k_ ≠ (.slice Ao35 t387.length co35 : Value).ownBlock) ∧ some k_ ≠ (.slice Ao42 t393.length co42 : Value).ownBlock) ∧ some k_ ≠ (.slice Ao43 t396.length co43 : Value).ownBlock)) (n := t376.length) (c := co27) ?_).2.2; exact (by (with_reducible repeat (first | apply Kd.R_alloc | apply Kd.R_drewN | apply Kd.R_drew)); exact (Kd.R_mono (Kd.R_far (p := ⟨gb401, 3, none⟩) (Kd.R_far (p := ⟨gb401, 2, none⟩) (Kd.R_far (p := ⟨gb401, 1, none⟩) (Kd.R_far (p := ⟨gb401, 0, none⟩) (Kd.R_types HO378.out BK401.out (by decide)) (fun _ hk => hk.2) (.int .i64 t391)) (fun _ hk => hk.2) (.int .i64 t392)) (fun _ hk => hk.2) (.slice Ao42 t393.length co42)) (fun _ hk => hk.2) (.slice Ao43 t396.length co43)) (fun _ h_ => h_.1)))); (case side8 => exact (Kd.R_reads' HO378.out).2.1); rintro e w70 ⟨rfl, hb⟩; refine ⟨_, rfl, ?_⟩; have n0_ := Aside0.mk (Kd.R_below (by (with_reducible repeat (first | apply Kd.R_alloc | apply Kd.R_drewN | apply Kd.R_drew)); exact (Kd.R_mono (Kd.R_far (p := ⟨gb401, 3, none⟩) (Kd.R_far (p := ⟨gb401, 2, none⟩) (Kd.R_far (p := ⟨gb401, 1, none⟩) (Kd.R_far (p := ⟨gb401, 0, none⟩) (Kd.R_types HO367.out BK401.out (by decide)) (fun _ hk => hk.2) (.int .i64 t391)) (fun _ hk => hk.2) (.int .i64 t392)) (fun _ hk => hk.2) (.slice Ao42 t393.length co42)) (fun _ hk => hk.2) (.slice Ao43 t396.length co43)) (fun _ h_ => h_.1))) hb); have n1_ := Aside0.mk (Kd.R_below (by (with_reducible repeat (first | apply Kd.R_alloc | apply Kd.R_drewN | apply Kd.R_drew)); exact (Kd.R_mono (Kd.R_far (p := ⟨gb401, 3, none⟩) (Kd.R_far (p := ⟨gb401, 2, none⟩) (Kd.R_far (p := ⟨gb401, 1, none⟩) (Kd.R_far (p := ⟨gb401, 0, none⟩) (Kd.R_types HO370.out BK401.out (by decide)) (fun _ hk => hk.2) (.int .i64 t391)) (fun _ hk => hk.2) (.int .i64 t392)) (fun _ hk => hk.2) (.slice Ao42 t393.length co42)) (fun _ hk => hk.2) (.slice Ao43 t396.length co43)) (fun _ h_ => h_.1))) hb); have n2_ := Aside0.mk (Kd.R_below (by (with_reducible repeat (first | apply Kd.R_alloc | apply Kd.R_drewN | apply Kd.R_drew)); exact (Kd.R_mono (Kd.R_far (p := ⟨gb401, 3, none⟩) (Kd.R_far (p := ⟨gb401, 2, none⟩) (Kd.R_far (p := ⟨gb401, 1, none⟩) (Kd.R_far (p := ⟨gb401, 0, none⟩) (Kd.R_types HO375.out BK401.out (by decide)) (fun _ hk => hk.2) (.int .i64 t391)) (fun _ hk => hk.2) (.int .i64 t392)) (fun _ hk => hk.2) (.slice Ao42 t393.length co42)) (fun _ hk => hk.2) (.slice Ao43 t396.length co43)) (fun _ h_ => h_.1))) hb); have n3_ := Aside0.mk (Kd.R_below (by (with_reducible repeat (first | apply Kd.R_alloc | apply Kd.R_drewN | apply Kd.R_drew)); exact (Kd.R_mono (Kd.R_far (p := ⟨gb401, 3, none⟩) (Kd.R_far (p := ⟨gb401, 2, none⟩) (Kd.R_far (p := ⟨gb401, 1, none⟩) (Kd.R_far (p := ⟨gb401, 0, none⟩) (Kd.R_types HO378.out BK401.out (by decide)) (fun _ hk => hk.2) (.int .i64 t391)) (fun _ hk => hk.2) (.int .i64 t392)) (fun _ hk => hk.2) (.slice Ao42 t393.length co42)) (fun _ hk => hk.2) (.slice Ao43 t396.length co43)) (fun _ h_ => h_.1))) hb); have n4_ := Aside0.mk (Kd.R_below (by (with_reducible repeat (first | apply Kd.R_alloc | apply Kd.R_drewN | apply Kd.R_drew)); exact (Kd.R_mono (Kd.R_far (p := ⟨gb401, 3, none⟩) (Kd.R_far (p := ⟨gb401, 2, none⟩) (Kd.R_far (p := ⟨gb401, 1, none⟩) (Kd.R_far (p := ⟨gb401, 0, none⟩) (Kd.R_types HO386.out BK401.out (by decide)) (fun _ hk => hk.2) (.int .i64 t391)) (fun _ hk => hk.2) (.int .i64 t392)) (fun _ hk => hk.2) (.slice Ao42 t393.length co42)) (fun _ hk => hk.2) (.slice Ao43 t396.length co43)) (fun _ h_ => h_.1))) hb); have n5_ := Aside0.mk (Kd.R_below (by (with_reducible repeat (first | apply Kd.R_alloc | apply Kd.R_drewN | apply Kd.R_drew)); exact (Kd.R_mono (Kd.R_far (p := ⟨gb401, 3, none⟩) (Kd.R_far (p := ⟨gb401, 2, none⟩) (Kd.R_far (p := ⟨gb401, 1, none⟩) (Kd.R_far (p := ⟨gb401, 0, none⟩) (Kd.R_types HO389.out BK401.out (by decide)) (fun _ hk => hk.2) (.int .i64 t391)) (fun _ hk => hk.2) (.int .i64 t392)) (fun _ hk => hk.2) (.slice Ao42 t393.length co42)) (fun _ hk => hk.2) (.slice Ao43 t396.length co43)) (fun _ h_ => h_.1))) hb); have n6_ := Aside0.mk (Kd.R_below (by (with_reducible repeat (first | apply Kd.R_alloc | apply Kd.R_drewN | apply Kd.R_drew)); exact (Kd.R_mono (Kd.R_far (p := ⟨gb401, 3, none⟩) (Kd.R_far (p := ⟨gb401, 2, none⟩) (Kd.R_far (p := ⟨gb401, 1, none⟩) (Kd.R_far (p := ⟨gb401, 0, none⟩) (Kd.R_types HO395.out BK401.out (by decide)) (fun _ hk => hk.2) (.int .i64 t391)) (fun _ hk => hk.2) (.int .i64 t392)) (fun _ hk => hk.2) (.slice Ao42 t393.length co42)) (fun _ hk => hk.2) (.slice Ao43 t396.length co43)) (fun _ h_ => h_.1))) hb); have n7_ := Aside0.mk (Kd.R_below (by (with_reducible repeat (first | apply Kd.R_alloc | apply Kd.R_drewN | apply Kd.R_drew)); exact (Kd.R_mono (Kd.R_far (p := ⟨gb401, 3, none⟩) (Kd.R_far (p := ⟨gb401, 2, none⟩) (Kd.R_far (p := ⟨gb401, 1, none⟩) (Kd.R_far (p := ⟨gb401, 0, none⟩) (Kd.R_types HO398.out BK401.out (by decide)) (fun _ hk => hk.2) (.int .i64 t391)) (fun _ hk => hk.2) (.int .i64 t392)) (fun _ hk => hk.2) (.slice Ao42 t393.length co42)) (fun _ hk => hk.2) (.slice Ao43 t396.length co43)) (fun _ h_ => h_.1))) hb); have n8_ := Aside0.mk (blk_below (g := gb361) (o := .cells #[.int .i64 a0_0, .int .i64 a0_1, .slice A0_2 l0_2.length c0_2, .slice A0_3 l0_3.length c0_3] 24 (0, 0)) (by (with_reducible repeat (first | refine blk_drewN ?_ _ | refine blk_drew ?_ | refine blk_alloc ?_ _)); refine blk_far ?_ NB361_401.out _; (with_reducible repeat (first | refine blk_drewN ?_ _ | refine blk_drew ?_ | refine blk_alloc ?_ _)); refine blk_far ?_ NB361_401.out _; (with_reducible repeat (first | refine blk_drewN ?_ _ | refine blk_drew ?_ | refine blk_alloc ?_ _)); refine blk_far ?_ NB361_401.out _; (with_reducible repeat (first | refine blk_drewN ?_ _ | refine blk_drew ?_ | refine blk_alloc ?_ _)); refine blk_far ?_ NB361_401.out _; exact bk BK361.out) hb); have n9_ := Aside0.mk (blk_below (g := gb381) (o := .cells #[.int .i64 t371, .int .i64 t372, .slice Ao26 t373.length co26, .slice Ao27 t376.length co27] 28 (0, 0)) (by (with_reducible repeat (first | refine blk_drewN ?_ _ | refine blk_drew ?_ | refine blk_alloc ?_ _)); refine blk_far ?_ NB381_401.out _; (with_reducible repeat (first | refine blk_drewN ?_ _ | refine blk_drew ?_ | refine blk_alloc ?_ _)); refine blk_far ?_ NB381_401.out _; (with_reducible repeat (first | refine blk_drewN ?_ _ | refine blk_drew ?_ | refine blk_alloc ?_ _)); refine blk_far ?_ NB381_401.out _; (with_reducible repeat (first | refine blk_drewN ?_ _ | refine blk_drew ?_ | refine blk_alloc ?_ _)); refine blk_far ?_ NB381_401.out _; exact bk BK381.out) hb); have n10_ := Aside0.mk (blk_below (g := gb390) (o := .cells #[.int .i64 t382, .int .i64 t383, .slice Ao34 t384.length co34, .slice Ao35 t387.length co35] 28 (0, 0)) (by (with_reducible repeat (first | refine blk_drewN ?_ _ | refine blk_drew ?_ | refine blk_alloc ?_ _)); refine blk_far ?_ NB390_401.out _; (with_reducible repeat (first | refine blk_drewN ?_ _ | refine blk_drew ?_ | refine blk_alloc ?_ _)); refine blk_far ?_ NB390_401.out _; (with_reducible repeat (first | refine blk_drewN ?_ _ | refine blk_drew ?_ | refine blk_alloc ?_ _)); refine blk_far ?_ NB390_401.out _; (with_reducible repeat (first | refine blk_drewN ?_ _ | refine blk_drew ?_ | refine blk_alloc ?_ _)); refine blk_far ?_ NB390_401.out _; exact bk BK390.out) hb); have n11_ := Aside0.mk (blk_below (g := gb401) (o := .cells #[.int .i64 t391, .int .i64 t392, .slice Ao42 t393.length co42, .slice Ao43 t396.length co43] 28 (0, 0)) (by (with_reducible repeat (first | refine blk_drewN ?_ _ | refine blk_drew ?_ | refine blk_alloc ?_ _)); refine blk_put (cs := #[.int .i64 t391, .int .i64 t392, .slice Ao42 t393.length co42, .slice none 0 0]) ?_ 3 _ rfl; (with_reducible repeat (first | refine blk_drewN ?_ _ | refine blk_drew ?_ | refine blk_alloc ?_ _)); refine blk_put (cs := #[.int .i64 t391, .int .i64 t392, .slice none 0 0, .slice none 0 0]) ?_ 2 _ rfl; (with_reducible repeat (first | refine blk_drewN ?_ _ | refine blk_drew ?_ | refine blk_alloc ?_ _)); refine blk_put (cs := #[.int .i64 t391, .int .i64 0, .slice none 0 0, .slice none 0 0]) ?_ 1 _ rfl; (with_reducible repeat (first | refine blk_drewN ?_ _ | refine blk_drew ?_ | refine blk_alloc ?_ _)); refine blk_put (cs := #[.int .i64 0, .int .i64 0, .slice none 0 0, .slice none 0 0]) ?_ 0 _ rfl; exact bk BK401.out) hb); have n12_ := Aside0.mk (below_step (bl4 HB.out GE361.out GE381.out GE390.out GE401.out) hb); clear HO367; clear HO370; clear HO375; clear HO378; clear HO386; clear HO389; clear HO395; clear HO398; clear BK361; clear BK381; clear BK390; clear BK401; clear HB; have HO367 := n0_; have HO370 := n1_; have HO375 := n2_; have HO378 := n3_; have HO386 := n4_; have HO389 := n5_; have HO395 := n6_; have HO398 := n7_; have BK361 := n8_; have BK381 := n9_; have BK390 := n10_; have BK401 := n11_; have HB := n12_; clear n0_ n1_ n2_ n3_ n4_ n5_ n6_ n7_ n8_ n9_ n10_ n11_ n12_; (try clear hb); (try clear hb2); (try clear hk); (try clear hi)))
     go_meet
     case rel => exact ⟨_, (true), (by first | rfl | (simp; done) | (simp [*]; done)), H', ⟨by first | omega | exact Nat.le_refl _⟩, ⟨by (with_reducible repeat (first | apply Kd.R_alloc | apply Kd.R_drewN | apply Kd.R_drew)); exact Kd.R_mono HO375.out (fun _ hk => ⟨hk.1.1.1.1.1.1, ⟨hk.1.1.1.2, ⟨hk.1.1.2, ⟨hk.1.2, hk.2⟩⟩⟩⟩)⟩, ⟨by (with_reducible repeat (first | apply Kd.R_alloc | apply Kd.R_drewN | apply Kd.R_drew)); exact Kd.R_mono HO378.out (fun _ hk => ⟨hk.1.1.1.1.1.1, ⟨hk.1.1.1.2, ⟨hk.1.1.2, ⟨hk.1.2, hk.2⟩⟩⟩⟩)⟩, ⟨by (with_reducible repeat (first | apply Kd.R_alloc | apply Kd.R_drewN | apply Kd.R_drew)); exact Kd.R_mono HO386.out (fun _ hk => ⟨hk.1.1.1.2, ⟨hk.1.1.2, ⟨hk.1.1.1.1.1.1, ⟨hk.1.2, hk.2⟩⟩⟩⟩)⟩, ⟨by (with_reducible repeat (first | apply Kd.R_alloc | apply Kd.R_drewN | apply Kd.R_drew)); exact Kd.R_mono HO389.out (fun _ hk => ⟨hk.1.1.1.2, ⟨hk.1.1.2, ⟨hk.1.1.1.1.1.1, ⟨hk.1.2, hk.2⟩⟩⟩⟩)⟩, ⟨by (with_reducible repeat (first | apply Kd.R_alloc | apply Kd.R_drewN | apply Kd.R_drew)); exact Kd.R_mono HO395.out (fun _ hk => ⟨hk.1.1.1.2, ⟨hk.1.1.2, ⟨hk.1.2, ⟨hk.2, hk.1.1.1.1.1.1⟩⟩⟩⟩)⟩, ⟨by (with_reducible repeat (first | apply Kd.R_alloc | apply Kd.R_drewN | apply Kd.R_drew)); exact Kd.R_mono HO398.out (fun _ hk => ⟨hk.1.1.1.2, ⟨hk.1.1.2, ⟨hk.1.2, ⟨hk.2, hk.1.1.1.1.1.1⟩⟩⟩⟩)⟩, ⟨bk BK361.out⟩, ⟨bk BK381.out⟩, ⟨bk BK390.out⟩, ⟨bk BK401.out⟩, ⟨bl4 HB.out GE361.out GE381.out GE390.out GE401.out⟩⟩
   case rest =>
    clear HC14
    try clear c1
    try clear c2
    try clear p2
    try clear c3
    try clear c3b0
    try clear c3b1
    try clear c4
    try clear c5
    try clear c6
    try clear c6b0
    try clear c9
    try clear c11
    try clear c13
    try clear c24
    try clear c30
    try clear c31
    try clear c32
    try clear c38
    try clear c39
    try clear c40
    try clear c45
    try clear c46
    try clear c46b0
    try clear c46b1
    try clear c47
    try clear c48
    try clear c49
    try clear c51
    try clear c52
    try clear c55
    try clear c56
    try clear c57
    try clear c59
    try clear c60
    try clear c63
    try clear c64
    try clear c65
    try clear c67
    try clear c68
    try clear hcz16_0
    try clear hcz16_1
    try clear hcz16_2
    try clear hcz16_3
    try clear hcz18_0
    try clear hcz18_1
    try clear hcz18_2
    try clear hcz18_3
    try clear hcz25_0
    try clear hcz25_1
    try clear hcz25_2
    try clear hcz25_3
    try clear hcz28_0
    try clear hcz28_1
    try clear hcz28_2
    try clear hcz28_3
    try clear hcz33_0
    try clear hcz33_1
    try clear hcz33_2
    try clear hcz33_3
    try clear hcz41_0
    try clear hcz41_1
    try clear hcz41_2
    try clear hcz41_3
    try clear hcz50_0
    try clear hcz50_1
    try clear hcz50_2
    try clear hcz50_3
    try clear hcz53_0
    try clear hcz53_1
    try clear hcz53_2
    try clear hcz53_3
    try clear hcz58_0
    try clear hcz58_1
    try clear hcz58_2
    try clear hcz58_3
    try clear hcz61_0
    try clear hcz61_1
    try clear hcz61_2
    try clear hcz61_3
    try clear hcz66_0
    try clear hcz66_1
    try clear hcz66_2
    try clear hcz66_3
    try clear hcz69_0
    try clear hcz69_1
    try clear hcz69_2
    try clear hcz69_3
    try clear hcz8_0
    try clear hcz8_1
    try clear hcz8_2
    try clear hcz8_3
    try clear hfz16_0
    try clear hfz16_1
    try clear hfz16_2
    try clear hfz16_3
    try clear hfz18_0
    try clear hfz18_1
    try clear hfz18_2
    try clear hfz18_3
    try clear hfz25_0
    try clear hfz25_1
    try clear hfz25_2
    try clear hfz25_3
    try clear hfz28_0
    try clear hfz28_1
    try clear hfz28_2
    try clear hfz28_3
    try clear hfz33_0
    try clear hfz33_1
    try clear hfz33_2
    try clear hfz33_3
    try clear hfz41_0
    try clear hfz41_1
    try clear hfz41_2
    try clear hfz41_3
    try clear hfz50_0
    try clear hfz50_1
    try clear hfz50_2
    try clear hfz50_3
    try clear hfz53_0
    try clear hfz53_1
    try clear hfz53_2
    try clear hfz53_3
    try clear hfz58_0
    try clear hfz58_1
    try clear hfz58_2
    try clear hfz58_3
    try clear hfz61_0
    try clear hfz61_1
    try clear hfz61_2
    try clear hfz61_3
    try clear hfz66_0
    try clear hfz66_1
    try clear hfz66_2
    try clear hfz66_3
    try clear hfz69_0
    try clear hfz69_1
    try clear hfz69_2
    try clear hfz69_3
    try clear hfz8_0
    try clear hfz8_1
    try clear hfz8_2
    try clear hfz8_3
    obtain ⟨kq, x57_13, rfl, HA, HJ13, HO_382002, HO_382003, HO_391002, HO_391003, HO_402002, HO_402003, BK361, BK381, BK390, BK401, HB⟩ := hcut
    cases kq with
    | zero => exact absurd HA.out (by simp [laws_FnExactGetEntry.j0])
    | succ kj13 =>
     have H := HA.out
     clear HA
     simp only [laws_FnExactGetEntry.j0] at H
     by_cases c71 : x57_13 = true
     ·subst c71
      have H1 : (none) = some r := by rw [if_pos rfl] at H; exact H
      clear H
      have H := H1
      clear H1
      exact absurd H (by simp)
     ·replace c71 := Bool.eq_false_iff.mpr c71
      subst c71
      have H1 : ((laws_toSegmented.f kj13 a0_0 a0_1 l0_2 l0_3).bind fun bt403 => ((laws_eqSegmented.f kj13 t382 t383 t384 t387 bt403.1 bt403.2.1 bt403.2.2.1 bt403.2.2.2).bind fun t411 => (if t411 = true then ((laws_markSegmented.f kj13 t382 t383 t384 t387 1).bind fun bt412 => (if bt412.1 < 0 then (laws_FnExactGetEntry.j1 kj13 a1 t379 t380 true a0_0 a0_1 l0_2 l0_3 t371 t372 t373 t376 t391 t392 t393 t396) else ((laws_eqSegmented.f kj13 t391 t392 t393 t396 t371 t372 t373 t376).bind fun t415 => (if t415 = true then (if t399.toList = t379.toList then (laws_FnExactGetEntry.j1 kj13 a1 t379 t380 (t400 != t380) a0_0 a0_1 l0_2 l0_3 t371 t372 t373 t376 t391 t392 t393 t396) else (laws_FnExactGetEntry.j1 kj13 a1 t379 t380 true a0_0 a0_1 l0_2 l0_3 t371 t372 t373 t376 t391 t392 t393 t396)) else (laws_FnExactGetEntry.j1 kj13 a1 t379 t380 true a0_0 a0_1 l0_2 l0_3 t371 t372 t373 t376 t391 t392 t393 t396))))) else (none)))) = some r := by rw [if_neg (show ¬ (false = true) by decide)] at H; exact H
      clear H
      have H := H1
      clear H1
      replace H := Option.bind_eq_some_iff.mp H
      obtain ⟨⟨t403, t404, t405, t408⟩, A720, H⟩ := H
      try dsimp only at H
      have A72 := Aside0.mk A720
      clear A720
      replace H := Option.bind_eq_some_iff.mp H
      obtain ⟨t411, A730, H⟩ := H
      try dsimp only at H
      have A73 := Aside0.mk A730
      clear A730
      by_cases c74 : t411 = true
      ·subst c74
       have H1 : ((laws_markSegmented.f kj13 t382 t383 t384 t387 1).bind fun bt412 => (if bt412.1 < 0 then (laws_FnExactGetEntry.j1 kj13 a1 t379 t380 true a0_0 a0_1 l0_2 l0_3 t371 t372 t373 t376 t391 t392 t393 t396) else ((laws_eqSegmented.f kj13 t391 t392 t393 t396 t371 t372 t373 t376).bind fun t415 => (if t415 = true then (if t399.toList = t379.toList then (laws_FnExactGetEntry.j1 kj13 a1 t379 t380 (t400 != t380) a0_0 a0_1 l0_2 l0_3 t371 t372 t373 t376 t391 t392 t393 t396) else (laws_FnExactGetEntry.j1 kj13 a1 t379 t380 true a0_0 a0_1 l0_2 l0_3 t371 t372 t373 t376 t391 t392 t393 t396)) else (laws_FnExactGetEntry.j1 kj13 a1 t379 t380 true a0_0 a0_1 l0_2 l0_3 t371 t372 t373 t376 t391 t392 t393 t396))))) = some r := by rw [if_pos rfl] at H; exact H
       clear H
       have H := H1
       clear H1
       replace H := Option.bind_eq_some_iff.mp H
       obtain ⟨⟨t412, t413, t414⟩, A750, H⟩ := H
       try dsimp only at H
       have A75 := Aside0.mk A750
       clear A750
       have HC76 := Aside0.mk H
       clear H
       try go_wp2
       have n0_ := Aside0.mk (Kd.R_drew HO_382002.out)
       have n1_ := Aside0.mk (Kd.R_drew HO_382003.out)
       have n2_ := Aside0.mk (Kd.R_drew HO_391002.out)
       have n3_ := Aside0.mk (Kd.R_drew HO_391003.out)
       have n4_ := Aside0.mk (Kd.R_drew HO_402002.out)
       have n5_ := Aside0.mk (Kd.R_drew HO_402003.out)
       have n6_ := Aside0.mk (blk_drew BK361.out)
       have n7_ := Aside0.mk (blk_drew BK381.out)
       have n8_ := Aside0.mk (blk_drew BK390.out)
       have n9_ := Aside0.mk (blk_drew BK401.out)
       have n10_ := Aside0.mk (below_drew1 HB.out)
       clear HO_382002
       clear HO_382003
       clear HO_391002
       clear HO_391003
       clear HO_402002
       clear HO_402003
       clear BK361
       clear BK381
       clear BK390
       clear BK401
       clear HB
       have HO_382002 := n0_
       have HO_382003 := n1_
       have HO_391002 := n2_
       have HO_391003 := n3_
       have HO_402002 := n4_
       have HO_402003 := n5_
       have BK361 := n6_
       have BK381 := n7_
       have BK390 := n8_
       have BK401 := n9_
       have HB := n10_
       clear n0_ n1_ n2_ n3_ n4_ n5_ n6_ n7_ n8_ n9_ n10_
       refine start_ (n := 5) (S := fun w' => w'.cell? ⟨gb390, 0, none⟩ = some (.int .i64 t382) ∧ w'.cell? ⟨gb390, 1, none⟩ = some (.int .i64 t383) ∧ w'.cell? ⟨gb390, 2, none⟩ = some (.slice Ao34 t384.length co34) ∧ w'.cell? ⟨gb390, 3, none⟩ = some (.slice Ao35 t387.length co35) ∧ w'.cell? ⟨gb361, 0, none⟩ = some (.int .i64 a0_0) ∧ w'.cell? ⟨gb361, 1, none⟩ = some (.int .i64 a0_1) ∧ w'.cell? ⟨gb361, 2, none⟩ = some (.slice A0_2 l0_2.length c0_2) ∧ w'.cell? ⟨gb361, 3, none⟩ = some (.slice A0_3 l0_3.length c0_3)) (ds := []) #[false, false, false, false, false] (by kernel_rfl) rfl rfl ⟨(blk_cell BK390.out 0).trans rfl, (blk_cell BK390.out 1).trans rfl, (blk_cell BK390.out 2).trans rfl, (blk_cell BK390.out 3).trans rfl, (blk_cell BK361.out 0).trans rfl, (blk_cell BK361.out 1).trans rfl, (blk_cell BK361.out 2).trans rfl, (blk_cell BK361.out 3).trans rfl⟩ (fun hHeld => ?_)
       generalize wc.drew = w77 at HO_382002 HO_382003 HO_391002 HO_391003 HO_402002 HO_402003 BK361 BK381 BK390 BK401 HB hHeld ⊢
       refine take_ (i := 0) (N := some 58) (v := ?_) (a' := ?_) #[true, false, false, false, false] rfl rfl (by kernel_rfl) (fun _ _ _ h => h) (Or.inl ⟨by rfl, ?_⟩) hHeld ?_ ?_
       rotate_left
       ·rintro w' ⟨s0, s1, s2, s3, s4, s5, s6, s7⟩
        go_simp
        with_reducible rfl
       rotate_left
       ·simp only [Act.put, List.setIfInBounds_toArray, List.set_cons_zero, List.set_cons_succ, i64_w, i32_w]
        rfl
       refine take_ (i := 1) (N := some 59) (v := ?_) (a' := ?_) #[true, true, false, false, false] rfl rfl (by kernel_rfl) (fun _ _ _ h => h) (Or.inl ⟨by rfl, ?_⟩) hHeld ?_ ?_
       rotate_left
       ·rintro w' ⟨s0, s1, s2, s3, s4, s5, s6, s7⟩
        go_simp
        with_reducible rfl
       rotate_left
       ·simp only [Act.put, List.setIfInBounds_toArray, List.set_cons_zero, List.set_cons_succ, i64_w, i32_w]
        rfl
       refine one_ (i := 2) (N := some 60) #[true, true, true, false, false] rfl rfl (by kernel_rfl) (by decide) (fun K hK => ?_)
       refine goes_ Try.func11 (by kernel_rfl) rfl #[.agg #[.int .i64 a0_0, .int .i64 a0_1, .slice A0_2 l0_2.length c0_2, .slice A0_3 l0_3.length c0_3]] (by rfl) rfl rfl (by (try simp only [List.map_toArray, List.map_cons, List.map_nil]); first | done | rfl | (simp only [List.length_drop, List.length_take]; rfl)) ?_
       with_reducible refine (laws_toSegmented.calls kj13 a0_0 a0_1 _ _ l0_2 _ _ l0_3 t403 t404 t405 t408 _ ?side1 ?side2 ?side3 ?side4 A72.out).mono ?_
       (case side1 => exact kc (Kd.C_below HR0_2.out HB.out))
       (case side2 => exact HC0_2.out)
       (case side3 => exact kc (Kd.C_below HR0_3.out HB.out))
       (case side4 => exact HC0_3.out)
       rintro e w78 ⟨v406, v409, rfl, ho0, ho1, hb⟩
       refine ⟨_, rfl, ?_⟩
       have n0_ := Aside0.mk (Kd.R_mono (Kd.R_told (Kd.R_told (Kd.R_old (kr HO_382002.out) hb) (Kd.R_base ho0)) (Kd.R_base ho1)) (fun _ h_ => h_.1))
       have n1_ := Aside0.mk (Kd.R_mono (Kd.R_told (Kd.R_told (Kd.R_old (kr HO_382003.out) hb) (Kd.R_base ho0)) (Kd.R_base ho1)) (fun _ h_ => h_.1))
       have n2_ := Aside0.mk (Kd.R_mono (Kd.R_told (Kd.R_told (Kd.R_old (kr HO_391002.out) hb) (Kd.R_base ho0)) (Kd.R_base ho1)) (fun _ h_ => h_.1))
       have n3_ := Aside0.mk (Kd.R_mono (Kd.R_told (Kd.R_told (Kd.R_old (kr HO_391003.out) hb) (Kd.R_base ho0)) (Kd.R_base ho1)) (fun _ h_ => h_.1))
       have n4_ := Aside0.mk (Kd.R_mono (Kd.R_told (Kd.R_told (Kd.R_old (kr HO_402002.out) hb) (Kd.R_base ho0)) (Kd.R_base ho1)) (fun _ h_ => h_.1))
       have n5_ := Aside0.mk (Kd.R_mono (Kd.R_told (Kd.R_told (Kd.R_old (kr HO_402003.out) hb) (Kd.R_base ho0)) (Kd.R_base ho1)) (fun _ h_ => h_.1))
       have n6_ := Aside0.mk (Kd.R_lower (Kd.R_new' (Kd.R_new' (Kd.R_new' (Kd.R_new' (Kd.R_new' (Kd.R_new' ho0 (Kd.R_lt (kr HO_382002.out))) (Kd.R_lt (kr HO_382003.out))) (Kd.R_lt (kr HO_391002.out))) (Kd.R_lt (kr HO_391003.out))) (Kd.R_lt (kr HO_402002.out))) (Kd.R_lt (kr HO_402003.out))) (below_size (bl4 HB.out GE361.out GE381.out GE390.out GE401.out)))
       have n7_ := Aside0.mk (Kd.R_lower (Kd.R_new' (Kd.R_new' (Kd.R_new' (Kd.R_new' (Kd.R_new' (Kd.R_new' ho1 (Kd.R_lt (kr HO_382002.out))) (Kd.R_lt (kr HO_382003.out))) (Kd.R_lt (kr HO_391002.out))) (Kd.R_lt (kr HO_391003.out))) (Kd.R_lt (kr HO_402002.out))) (Kd.R_lt (kr HO_402003.out))) (below_size (bl4 HB.out GE361.out GE381.out GE390.out GE401.out)))
       have n8_ := Aside0.mk (blk_below (g := gb361) (o := .cells #[.int .i64 a0_0, .int .i64 a0_1, .slice A0_2 l0_2.length c0_2, .slice A0_3 l0_3.length c0_3] 24 (0, 0)) (bk BK361.out) hb)
       have n9_ := Aside0.mk (blk_below (g := gb381) (o := .cells #[.int .i64 t371, .int .i64 t372, .slice Ao26 t373.length co26, .slice Ao27 t376.length co27] 28 (0, 0)) (bk BK381.out) hb)
       have n10_ := Aside0.mk (blk_below (g := gb390) (o := .cells #[.int .i64 t382, .int .i64 t383, .slice Ao34 t384.length co34, .slice Ao35 t387.length co35] 28 (0, 0)) (bk BK390.out) hb)
       have n11_ := Aside0.mk (blk_below (g := gb401) (o := .cells #[.int .i64 t391, .int .i64 t392, .slice Ao42 t393.length co42, .slice Ao43 t396.length co43] 28 (0, 0)) (bk BK401.out) hb)
       have n12_ := Aside0.mk (below_step (bl4 HB.out GE361.out GE381.out GE390.out GE401.out) hb)
       clear HO_382002
       clear HO_382003
       clear HO_391002
       clear HO_391003
       clear HO_402002
       clear HO_402003
       clear BK361
       clear BK381
       clear BK390
       clear BK401
       clear HB
       have HO_382002 := n0_
       have HO_382003 := n1_
       have HO_391002 := n2_
       have HO_391003 := n3_
       have HO_402002 := n4_
       have HO_402003 := n5_
       have HO407 := n6_
       have HO410 := n7_
       have BK361 := n8_
       have BK381 := n9_
       have BK390 := n10_
       have BK401 := n11_
       have HB := n12_
       clear n0_ n1_ n2_ n3_ n4_ n5_ n6_ n7_ n8_ n9_ n10_ n11_ n12_
       (try clear hb)
       (try clear hb2)
       (try clear hk)
       (try clear hi)
       (try clear ho0)
       (try clear ho1)
       obtain ⟨Ao79, co79, eo79⟩ := Kd.R_slice HO407.out
       (first | subst eo79 | (injection eo79 with f1_ f2_ f3_; have f4_ := f1_.symm; have f5_ := f3_.symm; clear f1_ f2_ f3_; subst f4_; subst f5_))
       obtain ⟨Ao80, co80, eo80⟩ := Kd.R_slice HO410.out
       (first | subst eo80 | (injection eo80 with f1_ f2_ f3_; have f4_ := f1_.symm; have f5_ := f3_.symm; clear f1_ f2_ f3_; subst f4_; subst f5_))
       refine hK.out _ _ ⟨(blk_cell BK390.out 0).trans rfl, (blk_cell BK390.out 1).trans rfl, (blk_cell BK390.out 2).trans rfl, (blk_cell BK390.out 3).trans rfl, (blk_cell BK361.out 0).trans rfl, (blk_cell BK361.out 1).trans rfl, (blk_cell BK361.out 2).trans rfl, (blk_cell BK361.out 3).trans rfl⟩ (fun hHeld => ?_)
       clear hK K
       refine norm_ (a' := ?_) ?_ ?_
       rotate_left
       ·show Act.put _ (some 60) _ = _
        simp only [Act.put, List.setIfInBounds_toArray, List.set_cons_zero, List.set_cons_succ, i64_w, i32_w]
        rfl
       refine one_ (i := 3) (N := some 61) #[true, true, true, true, false] rfl rfl (by kernel_rfl) (by decide) (fun K hK => ?_)
       refine goes_ Try.func13 (by kernel_rfl) rfl #[.agg #[.int .i64 t382, .int .i64 t383, .slice Ao34 t384.length co34, .slice Ao35 t387.length co35], .agg #[.int .i64 t403, .int .i64 t404, .slice Ao79 t405.length co79, .slice Ao80 t408.length co80]] (by rfl) rfl rfl (by (try simp only [List.map_toArray, List.map_cons, List.map_nil]); first | done | rfl | (simp only [List.length_drop, List.length_take]; rfl)) ?_
       with_reducible refine (laws_eqSegmented.calls kj13 t382 t383 _ _ t384 _ _ t387 t403 t404 _ _ t405 _ _ t408 true _ ?side1 ?side2 ?side3 ?side4 ?side5 ?side6 ?side7 ?side8 A73.out).mono ?_
       (case side1 => exact kc (Kd.R_reads' HO_391002.out).2.2)
       (case side2 => exact (Kd.R_reads' HO_391002.out).2.1)
       (case side3 => exact kc (Kd.R_reads' HO_391003.out).2.2)
       (case side4 => exact (Kd.R_reads' HO_391003.out).2.1)
       (case side5 => exact kc (Kd.R_reads' HO407.out).2.2)
       (case side6 => exact (Kd.R_reads' HO407.out).2.1)
       (case side7 => exact kc (Kd.R_reads' HO410.out).2.2)
       (case side8 => exact (Kd.R_reads' HO410.out).2.1)
       rintro e w81 ⟨rfl, hb⟩
       refine ⟨_, rfl, ?_⟩
       have n0_ := Aside0.mk (Kd.R_below (kr HO_382002.out) hb)
       have n1_ := Aside0.mk (Kd.R_below (kr HO_382003.out) hb)
       have n2_ := Aside0.mk (Kd.R_below (kr HO_391002.out) hb)
       have n3_ := Aside0.mk (Kd.R_below (kr HO_391003.out) hb)
       have n4_ := Aside0.mk (Kd.R_below (kr HO_402002.out) hb)
       have n5_ := Aside0.mk (Kd.R_below (kr HO_402003.out) hb)
       have n6_ := Aside0.mk (Kd.R_below (kr HO407.out) hb)
       have n7_ := Aside0.mk (Kd.R_below (kr HO410.out) hb)
       have n8_ := Aside0.mk (blk_below (g := gb361) (o := .cells #[.int .i64 a0_0, .int .i64 a0_1, .slice A0_2 l0_2.length c0_2, .slice A0_3 l0_3.length c0_3] 24 (0, 0)) (bk BK361.out) hb)
       have n9_ := Aside0.mk (blk_below (g := gb381) (o := .cells #[.int .i64 t371, .int .i64 t372, .slice Ao26 t373.length co26, .slice Ao27 t376.length co27] 28 (0, 0)) (bk BK381.out) hb)
       have n10_ := Aside0.mk (blk_below (g := gb390) (o := .cells #[.int .i64 t382, .int .i64 t383, .slice Ao34 t384.length co34, .slice Ao35 t387.length co35] 28 (0, 0)) (bk BK390.out) hb)
       have n11_ := Aside0.mk (blk_below (g := gb401) (o := .cells #[.int .i64 t391, .int .i64 t392, .slice Ao42 t393.length co42, .slice Ao43 t396.length co43] 28 (0, 0)) (bk BK401.out) hb)
       have n12_ := Aside0.mk (below_step (bl4 HB.out GE361.out GE381.out GE390.out GE401.out) hb)
       clear HO_382002
       clear HO_382003
       clear HO_391002
       clear HO_391003
       clear HO_402002
       clear HO_402003
       clear HO407
       clear HO410
       clear BK361
       clear BK381
       clear BK390
       clear BK401
       clear HB
       have HO_382002 := n0_
       have HO_382003 := n1_
       have HO_391002 := n2_
       have HO_391003 := n3_
       have HO_402002 := n4_
       have HO_402003 := n5_
       have HO407 := n6_
       have HO410 := n7_
       have BK361 := n8_
       have BK381 := n9_
       have BK390 := n10_
       have BK401 := n11_
       have HB := n12_
       clear n0_ n1_ n2_ n3_ n4_ n5_ n6_ n7_ n8_ n9_ n10_ n11_ n12_
       (try clear hb)
       (try clear hb2)
       (try clear hk)
       (try clear hi)
       refine hK.out _ _ ⟨(blk_cell BK390.out 0).trans rfl, (blk_cell BK390.out 1).trans rfl, (blk_cell BK390.out 2).trans rfl, (blk_cell BK390.out 3).trans rfl, (blk_cell BK361.out 0).trans rfl, (blk_cell BK361.out 1).trans rfl, (blk_cell BK361.out 2).trans rfl, (blk_cell BK361.out 3).trans rfl⟩ (fun hHeld => ?_)
       clear hK K
       refine norm_ (a' := ?_) ?_ ?_
       rotate_left
       ·show Act.put _ (some 61) _ = _
        simp only [Act.put, List.setIfInBounds_toArray, List.set_cons_zero, List.set_cons_succ, i64_w, i32_w]
        rfl
       refine pure_ (i := 4) (N := some 62) (v := ?_) (a' := ?_) #[true, true, true, true, true] rfl rfl (by kernel_rfl) (fun _ _ _ h => h) (Or.inl ⟨by rfl, ?_⟩) ?_ ?_
       rotate_left
       ·intro w'
        go_simp
        with_reducible rfl
       rotate_left
       ·simp only [Act.put, List.setIfInBounds_toArray, List.set_cons_zero, List.set_cons_succ, i64_w, i32_w]
        rfl
       refine done_ (by kernel_rfl) ?_
       have hnb82 := NB390_361.out
       have hnc82 := NB361_390.out
       have hnb83 := NB390_381.out
       have hnc83 := NB381_390.out
       have hnb84 := NB390_401.out
       have hnc84 := NB401_390.out
       have hcz85_0 : w81.cell? ⟨gb390, 0, none⟩ = some (.int .i64 t382) := (blk_cell BK390.out 0).trans rfl
       have hcz85_1 : w81.cell? ⟨gb390, 1, none⟩ = some (.int .i64 t383) := (blk_cell BK390.out 1).trans rfl
       have hcz85_2 : w81.cell? ⟨gb390, 2, none⟩ = some (.slice Ao34 t384.length co34) := (blk_cell BK390.out 2).trans rfl
       have hcz85_3 : w81.cell? ⟨gb390, 3, none⟩ = some (.slice Ao35 t387.length co35) := (blk_cell BK390.out 3).trans rfl
       have hfz85_0 := blk_frozen BK390.out 0
       have hfz85_1 := blk_frozen BK390.out 1
       have hfz85_2 := blk_frozen BK390.out 2
       have hfz85_3 := blk_frozen BK390.out 3
       go_upto_region 16 with (first | ((with_reducible refine gate_callee (f := 14) rfl ?_); refine goesL_ (some 65) rfl rfl Try.func14 (by kernel_rfl) rfl #[.agg #[.int .i64 t382, .int .i64 t383, .slice Ao34 t384.length co34, .slice Ao35 t387.length co35], .int .i64 1] rfl (by (try simp only [List.map_toArray, List.map_cons, List.map_nil]); first | done | rfl | (simp only [List.length_drop, List.length_take]; rfl)) ?_; (with_reducible refine (laws_markSegmented.calls kj13 t382 t383 (fun k_ => some k_ = (.slice Ao34 t384.length co34 : Value).ownBlock) (.slice Ao34 t384.length co34) t384 (fun k_ => some k_ = (.slice Ao35 t387.length co35 : Value).ownBlock) (.slice Ao35 t387.length co35) t387 1 t412 t413 t414 w _ ?side1 ?side2 ?side3 ?side4 ?side5 A75.out).mono ?_); (case side1 => exact bl4 HB.out GE361.out GE381.out GE390.out GE401.out); (case side2 => exact Kd.R_tight rfl HO_391002.out); (case side3 => exact fun k_ e_ => (HO_391002.out.1 k_ e_.symm).1.1.2.2.1); (case side4 => exact Kd.R_tight rfl HO_391003.out); (case side5 => exact fun k_ e_ => (HO_391003.out.1 k_ e_.symm).1.1.2.2.1); rintro e w86 ⟨rfl, hy0, hy1, hb, hkp⟩; refine ⟨_, rfl, ?_⟩; have n0_ := Aside0.mk (Kd.R_mono (ok' := fun k_ => some k_ ≠ (.slice Ao27 t376.length co27 : Value).ownBlock ∧ some k_ ≠ (.slice Ao34 t384.length co34 : Value).ownBlock ∧ some k_ ≠ (.slice Ao35 t387.length co35 : Value).ownBlock ∧ some k_ ≠ (.slice Ao42 t393.length co42 : Value).ownBlock ∧ some k_ ≠ (.slice Ao43 t396.length co43 : Value).ownBlock ∧ some k_ ≠ (.slice Ao79 t405.length co79 : Value).ownBlock ∧ some k_ ≠ (.slice Ao80 t408.length co80 : Value).ownBlock) (Kd.R_keptB (HO_382002.out) hkp (fun k_ hk_ hs_ => Or.elim hs_ (fun e_ => (hk_.1.1.2.1) e_) (fun e_ => (hk_.1.1.2.2.1) e_))) (fun k_ hk_ => ⟨hk_.1.1.1.1, hk_.1.1.1.2.1, hk_.1.1.1.2.2.1, hk_.1.1.1.2.2.2.1, hk_.1.1.1.2.2.2.2, hk_.1.1.2, hk_.1.2⟩)); have n1_ := Aside0.mk (Kd.R_mono (ok' := fun k_ => some k_ ≠ (.slice Ao26 t373.length co26 : Value).ownBlock ∧ some k_ ≠ (.slice Ao34 t384.length co34 : Value).ownBlock ∧ some k_ ≠ (.slice Ao35 t387.length co35 : Value).ownBlock ∧ some k_ ≠ (.slice Ao42 t393.length co42 : Value).ownBlock ∧ some k_ ≠ (.slice Ao43 t396.length co43 : Value).ownBlock ∧ some k_ ≠ (.slice Ao79 t405.length co79 : Value).ownBlock ∧ some k_ ≠ (.slice Ao80 t408.length co80 : Value).ownBlock) (Kd.R_keptB (HO_382003.out) hkp (fun k_ hk_ hs_ => Or.elim hs_ (fun e_ => (hk_.1.1.2.1) e_) (fun e_ => (hk_.1.1.2.2.1) e_))) (fun k_ hk_ => ⟨hk_.1.1.1.1, hk_.1.1.1.2.1, hk_.1.1.1.2.2.1, hk_.1.1.1.2.2.2.1, hk_.1.1.1.2.2.2.2, hk_.1.1.2, hk_.1.2⟩)); have n2_ := Aside0.mk (Kd.R_reok rfl hy0 (fun k_ e_ => HO_391002.out.1 k_ e_)); have n3_ := Aside0.mk (Kd.R_reok rfl hy1 (fun k_ e_ => HO_391003.out.1 k_ e_)); have n4_ := Aside0.mk (Kd.R_mono (ok' := fun k_ => some k_ ≠ (.slice Ao26 t373.length co26 : Value).ownBlock ∧ some k_ ≠ (.slice Ao27 t376.length co27 : Value).ownBlock ∧ some k_ ≠ (.slice Ao34 t384.length co34 : Value).ownBlock ∧ some k_ ≠ (.slice Ao35 t387.length co35 : Value).ownBlock ∧ some k_ ≠ (.slice Ao43 t396.length co43 : Value).ownBlock ∧ some k_ ≠ (.slice Ao79 t405.length co79 : Value).ownBlock ∧ some k_ ≠ (.slice Ao80 t408.length co80 : Value).ownBlock) (Kd.R_keptB (HO_402002.out) hkp (fun k_ hk_ hs_ => Or.elim hs_ (fun e_ => (hk_.1.1.2.2.1) e_) (fun e_ => (hk_.1.1.2.2.2.1) e_))) (fun k_ hk_ => ⟨hk_.1.1.1.1, hk_.1.1.1.2.1, hk_.1.1.1.2.2.1, hk_.1.1.1.2.2.2.1, hk_.1.1.1.2.2.2.2, hk_.1.1.2, hk_.1.2⟩)); have n5_ := Aside0.mk (Kd.R_mono (ok' := fun k_ => some k_ ≠ (.slice Ao26 t373.length co26 : Value).ownBlock ∧ some k_ ≠ (.slice Ao27 t376.length co27 : Value).ownBlock ∧ some k_ ≠ (.slice Ao34 t384.length co34 : Value).ownBlock ∧ some k_ ≠ (.slice Ao35 t387.length co35 : Value).ownBlock ∧ some k_ ≠ (.slice Ao42 t393.length co42 : Value).ownBlock ∧ some k_ ≠ (.slice Ao79 t405.length co79 : Value).ownBlock ∧ some k_ ≠ (.slice Ao80 t408.length co80 : Value).ownBlock) (Kd.R_keptB (HO_402003.out) hkp (fun k_ hk_ hs_ => Or.elim hs_ (fun e_ => (hk_.1.1.2.2.1) e_) (fun e_ => (hk_.1.1.2.2.2.1) e_))) (fun k_ hk_ => ⟨hk_.1.1.1.1, hk_.1.1.1.2.1, hk_.1.1.1.2.2.1, hk_.1.1.1.2.2.2.1, hk_.1.1.1.2.2.2.2, hk_.1.1.2, hk_.1.2⟩)); have n6_ := Aside0.mk (blk_kept (bk BK361.out) hkp (fun hs_ => Or.elim hs_ (fun e_ => (fun e_ => (Kd.R_ne HO_391002.out BK361.out (by decide)) e_) e_) (fun e_ => (fun e_ => (Kd.R_ne HO_391003.out BK361.out (by decide)) e_) e_))); have n7_ := Aside0.mk (blk_kept (bk BK381.out) hkp (fun hs_ => Or.elim hs_ (fun e_ => (fun e_ => (Kd.R_ne HO_391002.out BK381.out (by decide)) e_) e_) (fun e_ => (fun e_ => (Kd.R_ne HO_391003.out BK381.out (by decide)) e_) e_))); have n8_ := Aside0.mk (blk_kept (bk BK390.out) hkp (fun hs_ => Or.elim hs_ (fun e_ => (fun e_ => (Kd.R_ne HO_391002.out BK390.out (by decide)) e_) e_) (fun e_ => (fun e_ => (Kd.R_ne HO_391003.out BK390.out (by decide)) e_) e_))); have n9_ := Aside0.mk (blk_kept (bk BK401.out) hkp (fun hs_ => Or.elim hs_ (fun e_ => (fun e_ => (Kd.R_ne HO_391002.out BK401.out (by decide)) e_) e_) (fun e_ => (fun e_ => (Kd.R_ne HO_391003.out BK401.out (by decide)) e_) e_))); have n10_ := Aside0.mk (Kd.R_mono (ok' := fun k_ => some k_ ≠ (.slice Ao26 t373.length co26 : Value).ownBlock ∧ some k_ ≠ (.slice Ao27 t376.length co27 : Value).ownBlock ∧ some k_ ≠ (.slice Ao34 t384.length co34 : Value).ownBlock ∧ some k_ ≠ (.slice Ao35 t387.length co35 : Value).ownBlock ∧ some k_ ≠ (.slice Ao42 t393.length co42 : Value).ownBlock ∧ some k_ ≠ (.slice Ao43 t396.length co43 : Value).ownBlock ∧ some k_ ≠ (.slice Ao80 t408.length co80 : Value).ownBlock) (Kd.R_keptB (HO407.out) hkp (fun k_ hk_ hs_ => Or.elim hs_ (fun e_ => (hk_.1.1.1.2) e_) (fun e_ => (hk_.1.1.2) e_))) (fun k_ hk_ => ⟨hk_.1.1.1.1.1.1.2, hk_.1.1.1.1.1.2, hk_.1.1.1.1.2, hk_.1.1.1.2, hk_.1.1.2, hk_.1.2, hk_.1.1.1.1.1.1.1⟩)); have n11_ := Aside0.mk (Kd.R_mono (ok' := fun k_ => some k_ ≠ (.slice Ao26 t373.length co26 : Value).ownBlock ∧ some k_ ≠ (.slice Ao27 t376.length co27 : Value).ownBlock ∧ some k_ ≠ (.slice Ao34 t384.length co34 : Value).ownBlock ∧ some k_ ≠ (.slice Ao35 t387.length co35 : Value).ownBlock ∧ some k_ ≠ (.slice Ao42 t393.length co42 : Value).ownBlock ∧ some k_ ≠ (.slice Ao43 t396.length co43 : Value).ownBlock ∧ some k_ ≠ (.slice Ao79 t405.length co79 : Value).ownBlock) (Kd.R_keptB (HO410.out) hkp (fun k_ hk_ hs_ => Or.elim hs_ (fun e_ => (hk_.1.1.1.2) e_) (fun e_ => (hk_.1.1.2) e_))) (fun k_ hk_ => ⟨hk_.1.1.1.1.1.1.2, hk_.1.1.1.1.1.2, hk_.1.1.1.1.2, hk_.1.1.1.2, hk_.1.1.2, hk_.1.2, hk_.1.1.1.1.1.1.1⟩)); have n12_ := Aside0.mk (hb); clear HO_382002; clear HO_382003; clear HO_391002; clear HO_391003; clear HO_402002; clear HO_402003; clear BK361; clear BK381; clear BK390; clear BK401; clear HO407; clear HO410; clear HB; have HO_382002 := n0_; have HO_382003 := n1_; have HO_391002 := n2_; have HO_391003 := n3_; have HO_402002 := n4_; have HO_402003 := n5_; have BK361 := n6_; have BK381 := n7_; have BK390 := n8_; have BK401 := n9_; have HO407 := n10_; have HO410 := n11_; have HB := n12_; clear n0_ n1_ n2_ n3_ n4_ n5_ n6_ n7_ n8_ n9_ n10_ n11_ n12_; (try clear hb); (try clear hkp); (try clear hy0); (try clear hy1)))
       (try simp only [Act.put, List.setIfInBounds_toArray, List.set_cons_zero, List.set_cons_succ])
       go_cut [83] (fun v83 wc => ∃ (kq : Nat) (x83_75 : Bool), v83 = .bool x83_75 ∧ Aside0 (laws_FnExactGetEntry.j1 kq a1 t379 t380 x83_75 a0_0 a0_1 l0_2 l0_3 t371 t372 t373 t376 t391 t392 t393 t396 = some r) ∧ Aside0 (kq ≤ kj13) ∧ Aside0 (Kd.R k45 45 wc w.heap.size (fun k_ => some k_ ≠ ((.slice Ao27 t376.length co27) : Value).ownBlock ∧ some k_ ≠ ((.slice Ao34 t384.length co34) : Value).ownBlock ∧ some k_ ≠ ((.slice Ao35 t387.length co35) : Value).ownBlock ∧ some k_ ≠ ((.slice Ao42 t393.length co42) : Value).ownBlock ∧ some k_ ≠ ((.slice Ao43 t396.length co43) : Value).ownBlock) (.slice Ao26 t373.length co26) t373) ∧ Aside0 (Kd.R k45 45 wc w.heap.size (fun k_ => some k_ ≠ ((.slice Ao26 t373.length co26) : Value).ownBlock ∧ some k_ ≠ ((.slice Ao34 t384.length co34) : Value).ownBlock ∧ some k_ ≠ ((.slice Ao35 t387.length co35) : Value).ownBlock ∧ some k_ ≠ ((.slice Ao42 t393.length co42) : Value).ownBlock ∧ some k_ ≠ ((.slice Ao43 t396.length co43) : Value).ownBlock) (.slice Ao27 t376.length co27) t376) ∧ Aside0 (Kd.R k45 45 wc w.heap.size (fun k_ => some k_ ≠ ((.slice Ao26 t373.length co26) : Value).ownBlock ∧ some k_ ≠ ((.slice Ao27 t376.length co27) : Value).ownBlock ∧ some k_ ≠ ((.slice Ao35 t387.length co35) : Value).ownBlock ∧ some k_ ≠ ((.slice Ao42 t393.length co42) : Value).ownBlock ∧ some k_ ≠ ((.slice Ao43 t396.length co43) : Value).ownBlock) (.slice Ao34 t384.length co34) t413) ∧ Aside0 (Kd.R k45 45 wc w.heap.size (fun k_ => some k_ ≠ ((.slice Ao26 t373.length co26) : Value).ownBlock ∧ some k_ ≠ ((.slice Ao27 t376.length co27) : Value).ownBlock ∧ some k_ ≠ ((.slice Ao34 t384.length co34) : Value).ownBlock ∧ some k_ ≠ ((.slice Ao42 t393.length co42) : Value).ownBlock ∧ some k_ ≠ ((.slice Ao43 t396.length co43) : Value).ownBlock) (.slice Ao35 t387.length co35) t414) ∧ Aside0 (Kd.R k45 45 wc w.heap.size (fun k_ => some k_ ≠ ((.slice Ao26 t373.length co26) : Value).ownBlock ∧ some k_ ≠ ((.slice Ao27 t376.length co27) : Value).ownBlock ∧ some k_ ≠ ((.slice Ao34 t384.length co34) : Value).ownBlock ∧ some k_ ≠ ((.slice Ao35 t387.length co35) : Value).ownBlock ∧ some k_ ≠ ((.slice Ao43 t396.length co43) : Value).ownBlock) (.slice Ao42 t393.length co42) t393) ∧ Aside0 (Kd.R k45 45 wc w.heap.size (fun k_ => some k_ ≠ ((.slice Ao26 t373.length co26) : Value).ownBlock ∧ some k_ ≠ ((.slice Ao27 t376.length co27) : Value).ownBlock ∧ some k_ ≠ ((.slice Ao34 t384.length co34) : Value).ownBlock ∧ some k_ ≠ ((.slice Ao35 t387.length co35) : Value).ownBlock ∧ some k_ ≠ ((.slice Ao42 t393.length co42) : Value).ownBlock) (.slice Ao43 t396.length co43) t396) ∧ Aside0 (wc.heap[gb361]? = some (.cells #[.int .i64 a0_0, .int .i64 a0_1, (.slice A0_2 l0_2.length c0_2), (.slice A0_3 l0_3.length c0_3)] 24 (0, 0))) ∧ Aside0 (wc.heap[gb381]? = some (.cells #[.int .i64 t371, .int .i64 t372, (.slice Ao26 t373.length co26), (.slice Ao27 t376.length co27)] 28 (0, 0))) ∧ Aside0 (wc.heap[gb390]? = some (.cells #[.int .i64 t382, .int .i64 t383, (.slice Ao34 t384.length co34), (.slice Ao35 t387.length co35)] 28 (0, 0))) ∧ Aside0 (wc.heap[gb401]? = some (.cells #[.int .i64 t391, .int .i64 t392, (.slice Ao42 t393.length co42), (.slice Ao43 t396.length co43)] 28 (0, 0))) ∧ Aside0 (Below w.heap.size w wc))
       case first =>
        have H := HC76.out
        clear HC76
        by_cases c87 : t412 < 0
        ·rw [if_pos c87] at H
         have c87b0 : decide (t412 < 0) = true := decide_eq_true c87
         clear c87
         (first | rw [c87b0] | (simp only [i64_w, i32_w]; rw [c87b0]) | skip)
         have H' := Aside0.mk H
         clear H
         go_wp2
         go_meet
         case rel => exact ⟨_, (true), (by first | rfl | (simp; done) | (simp [*]; done)), H', ⟨by have := HJ13.out; first | omega | exact Nat.le_refl _⟩, ⟨by (with_reducible repeat (first | apply Kd.R_alloc | apply Kd.R_drewN | apply Kd.R_drew)); exact Kd.R_mono HO_382002.out (fun _ hk => ⟨hk.1, ⟨hk.2.1, ⟨hk.2.2.1, ⟨hk.2.2.2.1, hk.2.2.2.2.1⟩⟩⟩⟩)⟩, ⟨by (with_reducible repeat (first | apply Kd.R_alloc | apply Kd.R_drewN | apply Kd.R_drew)); exact Kd.R_mono HO_382003.out (fun _ hk => ⟨hk.1, ⟨hk.2.1, ⟨hk.2.2.1, ⟨hk.2.2.2.1, hk.2.2.2.2.1⟩⟩⟩⟩)⟩, ⟨by (with_reducible repeat (first | apply Kd.R_alloc | apply Kd.R_drewN | apply Kd.R_drew)); exact Kd.R_mono HO_391002.out (fun _ hk => ⟨hk.1.1.1, ⟨hk.1.1.2.1, ⟨hk.1.1.2.2.1, ⟨hk.1.1.2.2.2.1, hk.1.1.2.2.2.2⟩⟩⟩⟩)⟩, ⟨by (with_reducible repeat (first | apply Kd.R_alloc | apply Kd.R_drewN | apply Kd.R_drew)); exact Kd.R_mono HO_391003.out (fun _ hk => ⟨hk.1.1.1, ⟨hk.1.1.2.1, ⟨hk.1.1.2.2.1, ⟨hk.1.1.2.2.2.1, hk.1.1.2.2.2.2⟩⟩⟩⟩)⟩, ⟨by (with_reducible repeat (first | apply Kd.R_alloc | apply Kd.R_drewN | apply Kd.R_drew)); exact Kd.R_mono HO_402002.out (fun _ hk => ⟨hk.1, ⟨hk.2.1, ⟨hk.2.2.1, ⟨hk.2.2.2.1, hk.2.2.2.2.1⟩⟩⟩⟩)⟩, ⟨by (with_reducible repeat (first | apply Kd.R_alloc | apply Kd.R_drewN | apply Kd.R_drew)); exact Kd.R_mono HO_402003.out (fun _ hk => ⟨hk.1, ⟨hk.2.1, ⟨hk.2.2.1, ⟨hk.2.2.2.1, hk.2.2.2.2.1⟩⟩⟩⟩)⟩, ⟨bk BK361.out⟩, ⟨bk BK381.out⟩, ⟨bk BK390.out⟩, ⟨bk BK401.out⟩, ⟨bl4 HB.out GE361.out GE381.out GE390.out GE401.out⟩⟩
        ·rw [if_neg c87] at H
         have c87b0 : decide (t412 < 0) = false := decide_eq_false c87
         clear c87
         (first | rw [c87b0] | (simp only [i64_w, i32_w]; rw [c87b0]) | skip)
         replace H := Option.bind_eq_some_iff.mp H
         obtain ⟨t415, A880, H⟩ := H
         try dsimp only at H
         have A88 := Aside0.mk A880
         clear A880
         by_cases c89 : t415 = true
         ·subst c89
          have H1 : (if t399.toList = t379.toList then (laws_FnExactGetEntry.j1 kj13 a1 t379 t380 (t400 != t380) a0_0 a0_1 l0_2 l0_3 t371 t372 t373 t376 t391 t392 t393 t396) else (laws_FnExactGetEntry.j1 kj13 a1 t379 t380 true a0_0 a0_1 l0_2 l0_3 t371 t372 t373 t376 t391 t392 t393 t396)) = some r := by rw [if_pos rfl] at H; exact H
          clear H
          have H := H1
          clear H1
          by_cases c90 : t399.toList = t379.toList
          ·rw [if_pos c90] at H
           have c90b0 : (t399.toList == t379.toList) = true := beq_iff_eq.mpr c90
           have c90b1 : (t399.toList != t379.toList) = false := bne_eq_false_iff_eq.mpr c90
           clear c90
           have H' := Aside0.mk H
           clear H
           have hnb91 := NB401_361.out
           have hnc91 := NB361_401.out
           have hnb92 := NB401_381.out
           have hnc92 := NB381_401.out
           have hnb93 := NB401_390.out
           have hnc93 := NB390_401.out
           have hcz94_0 : w86.cell? ⟨gb401, 0, none⟩ = some (.int .i64 t391) := (blk_cell BK401.out 0).trans rfl
           have hcz94_1 : w86.cell? ⟨gb401, 1, none⟩ = some (.int .i64 t392) := (blk_cell BK401.out 1).trans rfl
           have hcz94_2 : w86.cell? ⟨gb401, 2, none⟩ = some (.slice Ao42 t393.length co42) := (blk_cell BK401.out 2).trans rfl
           have hcz94_3 : w86.cell? ⟨gb401, 3, none⟩ = some (.slice Ao43 t396.length co43) := (blk_cell BK401.out 3).trans rfl
           have hfz94_0 := blk_frozen BK401.out 0
           have hfz94_1 := blk_frozen BK401.out 1
           have hfz94_2 := blk_frozen BK401.out 2
           have hfz94_3 := blk_frozen BK401.out 3
           have hnb95 := NB381_361.out
           have hnc95 := NB361_381.out
           have hnb96 := NB381_390.out
           have hnc96 := NB390_381.out
           have hcz97_0 : w86.cell? ⟨gb381, 0, none⟩ = some (.int .i64 t371) := (blk_cell BK381.out 0).trans rfl
           have hcz97_1 : w86.cell? ⟨gb381, 1, none⟩ = some (.int .i64 t372) := (blk_cell BK381.out 1).trans rfl
           have hcz97_2 : w86.cell? ⟨gb381, 2, none⟩ = some (.slice Ao26 t373.length co26) := (blk_cell BK381.out 2).trans rfl
           have hcz97_3 : w86.cell? ⟨gb381, 3, none⟩ = some (.slice Ao27 t376.length co27) := (blk_cell BK381.out 3).trans rfl
           have hfz97_0 := blk_frozen BK381.out 0
           have hfz97_1 := blk_frozen BK381.out 1
           have hfz97_2 := blk_frozen BK381.out 2
           have hfz97_3 := blk_frozen BK381.out 3
           go_wp2_with (first | (go_at_call 13; (with_reducible refine (laws_eqSegmented.calls kj13 t391 t392 _ _ t393 _ _ t396 t371 t372 _ _ t373 _ _ t376 true _ ?side1 ?side2 ?side3 ?side4 ?side5 ?side6 ?side7 ?side8 A88.out).mono ?_); (case side1 => exact kc (Kd.R_reads' HO_402002.out).2.2); (case side2 => exact (Kd.R_reads' HO_402002.out).2.1); (case side3 => exact kc (Kd.R_reads' HO_402003.out).2.2); (case side4 => exact (Kd.R_reads' HO_402003.out).2.1); (case side5 => exact kc (Kd.R_reads' HO_382002.out).2.2); (case side6 => exact (Kd.R_reads' HO_382002.out).2.1); (case side7 => exact kc (Kd.R_reads' HO_382003.out).2.2); (case side8 => exact (Kd.R_reads' HO_382003.out).2.1); rintro e w98 ⟨rfl, hb⟩; have n0_ := Aside0.mk (Kd.R_below (kr HO_382002.out) hb); have n1_ := Aside0.mk (Kd.R_below (kr HO_382003.out) hb); have n2_ := Aside0.mk (Kd.R_below (kr HO_391002.out) hb); have n3_ := Aside0.mk (Kd.R_below (kr HO_391003.out) hb); have n4_ := Aside0.mk (Kd.R_below (kr HO_402002.out) hb); have n5_ := Aside0.mk (Kd.R_below (kr HO_402003.out) hb); have n6_ := Aside0.mk (Kd.R_below (kr HO407.out) hb); have n7_ := Aside0.mk (Kd.R_below (kr HO410.out) hb); have n8_ := Aside0.mk (blk_below (g := gb361) (o := .cells #[.int .i64 a0_0, .int .i64 a0_1, .slice A0_2 l0_2.length c0_2, .slice A0_3 l0_3.length c0_3] 24 (0, 0)) (bk BK361.out) hb); have n9_ := Aside0.mk (blk_below (g := gb381) (o := .cells #[.int .i64 t371, .int .i64 t372, .slice Ao26 t373.length co26, .slice Ao27 t376.length co27] 28 (0, 0)) (bk BK381.out) hb); have n10_ := Aside0.mk (blk_below (g := gb390) (o := .cells #[.int .i64 t382, .int .i64 t383, .slice Ao34 t384.length co34, .slice Ao35 t387.length co35] 28 (0, 0)) (bk BK390.out) hb); have n11_ := Aside0.mk (blk_below (g := gb401) (o := .cells #[.int .i64 t391, .int .i64 t392, .slice Ao42 t393.length co42, .slice Ao43 t396.length co43] 28 (0, 0)) (bk BK401.out) hb); have n12_ := Aside0.mk (below_step (bl4 HB.out GE361.out GE381.out GE390.out GE401.out) hb); clear HO_382002; clear HO_382003; clear HO_391002; clear HO_391003; clear HO_402002; clear HO_402003; clear HO407; clear HO410; clear BK361; clear BK381; clear BK390; clear BK401; clear HB; have HO_382002 := n0_; have HO_382003 := n1_; have HO_391002 := n2_; have HO_391003 := n3_; have HO_402002 := n4_; have HO_402003 := n5_; have HO407 := n6_; have HO410 := n7_; have BK361 := n8_; have BK381 := n9_; have BK390 := n10_; have BK401 := n11_; have HB := n12_; clear n0_ n1_ n2_ n3_ n4_ n5_ n6_ n7_ n8_ n9_ n10_ n11_ n12_; (try clear hb); (try clear hb2); (try clear hk); (try clear hi)))
           go_meet
           case rel => exact ⟨_, ((t400 != t380)), (by first | rfl | (simp; done) | (simp [*]; done)), H', ⟨by have := HJ13.out; first | omega | exact Nat.le_refl _⟩, ⟨by (with_reducible repeat (first | apply Kd.R_alloc | apply Kd.R_drewN | apply Kd.R_drew)); exact Kd.R_mono HO_382002.out (fun _ hk => ⟨hk.1, ⟨hk.2.1, ⟨hk.2.2.1, ⟨hk.2.2.2.1, hk.2.2.2.2.1⟩⟩⟩⟩)⟩, ⟨by (with_reducible repeat (first | apply Kd.R_alloc | apply Kd.R_drewN | apply Kd.R_drew)); exact Kd.R_mono HO_382003.out (fun _ hk => ⟨hk.1, ⟨hk.2.1, ⟨hk.2.2.1, ⟨hk.2.2.2.1, hk.2.2.2.2.1⟩⟩⟩⟩)⟩, ⟨by (with_reducible repeat (first | apply Kd.R_alloc | apply Kd.R_drewN | apply Kd.R_drew)); exact Kd.R_mono HO_391002.out (fun _ hk => ⟨hk.1.1.1, ⟨hk.1.1.2.1, ⟨hk.1.1.2.2.1, ⟨hk.1.1.2.2.2.1, hk.1.1.2.2.2.2⟩⟩⟩⟩)⟩, ⟨by (with_reducible repeat (first | apply Kd.R_alloc | apply Kd.R_drewN | apply Kd.R_drew)); exact Kd.R_mono HO_391003.out (fun _ hk => ⟨hk.1.1.1, ⟨hk.1.1.2.1, ⟨hk.1.1.2.2.1, ⟨hk.1.1.2.2.2.1, hk.1.1.2.2.2.2⟩⟩⟩⟩)⟩, ⟨by (with_reducible repeat (first | apply Kd.R_alloc | apply Kd.R_drewN | apply Kd.R_drew)); exact Kd.R_mono HO_402002.out (fun _ hk => ⟨hk.1, ⟨hk.2.1, ⟨hk.2.2.1, ⟨hk.2.2.2.1, hk.2.2.2.2.1⟩⟩⟩⟩)⟩, ⟨by (with_reducible repeat (first | apply Kd.R_alloc | apply Kd.R_drewN | apply Kd.R_drew)); exact Kd.R_mono HO_402003.out (fun _ hk => ⟨hk.1, ⟨hk.2.1, ⟨hk.2.2.1, ⟨hk.2.2.2.1, hk.2.2.2.2.1⟩⟩⟩⟩)⟩, ⟨bk BK361.out⟩, ⟨bk BK381.out⟩, ⟨bk BK390.out⟩, ⟨bk BK401.out⟩, ⟨bl4 HB.out GE361.out GE381.out GE390.out GE401.out⟩⟩
          ·rw [if_neg c90] at H
           have c90b0 : (t399.toList == t379.toList) = false := beq_eq_false_iff_ne.mpr c90
           have c90b1 : (t399.toList != t379.toList) = true := bne_iff_ne.mpr c90
           have H' := Aside0.mk H
           clear H
           have hnb99 := NB401_361.out
           have hnc99 := NB361_401.out
           have hnb100 := NB401_381.out
           have hnc100 := NB381_401.out
           have hnb101 := NB401_390.out
           have hnc101 := NB390_401.out
           have hcz102_0 : w86.cell? ⟨gb401, 0, none⟩ = some (.int .i64 t391) := (blk_cell BK401.out 0).trans rfl
           have hcz102_1 : w86.cell? ⟨gb401, 1, none⟩ = some (.int .i64 t392) := (blk_cell BK401.out 1).trans rfl
           have hcz102_2 : w86.cell? ⟨gb401, 2, none⟩ = some (.slice Ao42 t393.length co42) := (blk_cell BK401.out 2).trans rfl
           have hcz102_3 : w86.cell? ⟨gb401, 3, none⟩ = some (.slice Ao43 t396.length co43) := (blk_cell BK401.out 3).trans rfl
           have hfz102_0 := blk_frozen BK401.out 0
           have hfz102_1 := blk_frozen BK401.out 1
           have hfz102_2 := blk_frozen BK401.out 2
           have hfz102_3 := blk_frozen BK401.out 3
           have hnb103 := NB381_361.out
           have hnc103 := NB361_381.out
           have hnb104 := NB381_390.out
           have hnc104 := NB390_381.out
           have hcz105_0 : w86.cell? ⟨gb381, 0, none⟩ = some (.int .i64 t371) := (blk_cell BK381.out 0).trans rfl
           have hcz105_1 : w86.cell? ⟨gb381, 1, none⟩ = some (.int .i64 t372) := (blk_cell BK381.out 1).trans rfl
           have hcz105_2 : w86.cell? ⟨gb381, 2, none⟩ = some (.slice Ao26 t373.length co26) := (blk_cell BK381.out 2).trans rfl
           have hcz105_3 : w86.cell? ⟨gb381, 3, none⟩ = some (.slice Ao27 t376.length co27) := (blk_cell BK381.out 3).trans rfl
           have hfz105_0 := blk_frozen BK381.out 0
           have hfz105_1 := blk_frozen BK381.out 1
           have hfz105_2 := blk_frozen BK381.out 2
           have hfz105_3 := blk_frozen BK381.out 3
           go_wp2_with (first | (go_at_call 13; (with_reducible refine (laws_eqSegmented.calls kj13 t391 t392 _ _ t393 _ _ t396 t371 t372 _ _ t373 _ _ t376 true _ ?side1 ?side2 ?side3 ?side4 ?side5 ?side6 ?side7 ?side8 A88.out).mono ?_); (case side1 => exact kc (Kd.R_reads' HO_402002.out).2.2); (case side2 => exact (Kd.R_reads' HO_402002.out).2.1); (case side3 => exact kc (Kd.R_reads' HO_402003.out).2.2); (case side4 => exact (Kd.R_reads' HO_402003.out).2.1); (case side5 => exact kc (Kd.R_reads' HO_382002.out).2.2); (case side6 => exact (Kd.R_reads' HO_382002.out).2.1); (case side7 => exact kc (Kd.R_reads' HO_382003.out).2.2); (case side8 => exact (Kd.R_reads' HO_382003.out).2.1); rintro e w106 ⟨rfl, hb⟩; have n0_ := Aside0.mk (Kd.R_below (kr HO_382002.out) hb); have n1_ := Aside0.mk (Kd.R_below (kr HO_382003.out) hb); have n2_ := Aside0.mk (Kd.R_below (kr HO_391002.out) hb); have n3_ := Aside0.mk (Kd.R_below (kr HO_391003.out) hb); have n4_ := Aside0.mk (Kd.R_below (kr HO_402002.out) hb); have n5_ := Aside0.mk (Kd.R_below (kr HO_402003.out) hb); have n6_ := Aside0.mk (Kd.R_below (kr HO407.out) hb); have n7_ := Aside0.mk (Kd.R_below (kr HO410.out) hb); have n8_ := Aside0.mk (blk_below (g := gb361) (o := .cells #[.int .i64 a0_0, .int .i64 a0_1, .slice A0_2 l0_2.length c0_2, .slice A0_3 l0_3.length c0_3] 24 (0, 0)) (bk BK361.out) hb); have n9_ := Aside0.mk (blk_below (g := gb381) (o := .cells #[.int .i64 t371, .int .i64 t372, .slice Ao26 t373.length co26, .slice Ao27 t376.length co27] 28 (0, 0)) (bk BK381.out) hb); have n10_ := Aside0.mk (blk_below (g := gb390) (o := .cells #[.int .i64 t382, .int .i64 t383, .slice Ao34 t384.length co34, .slice Ao35 t387.length co35] 28 (0, 0)) (bk BK390.out) hb); have n11_ := Aside0.mk (blk_below (g := gb401) (o := .cells #[.int .i64 t391, .int .i64 t392, .slice Ao42 t393.length co42, .slice Ao43 t396.length co43] 28 (0, 0)) (bk BK401.out) hb); have n12_ := Aside0.mk (below_step (bl4 HB.out GE361.out GE381.out GE390.out GE401.out) hb); clear HO_382002; clear HO_382003; clear HO_391002; clear HO_391003; clear HO_402002; clear HO_402003; clear HO407; clear HO410; clear BK361; clear BK381; clear BK390; clear BK401; clear HB; have HO_382002 := n0_; have HO_382003 := n1_; have HO_391002 := n2_; have HO_391003 := n3_; have HO_402002 := n4_; have HO_402003 := n5_; have HO407 := n6_; have HO410 := n7_; have BK361 := n8_; have BK381 := n9_; have BK390 := n10_; have BK401 := n11_; have HB := n12_; clear n0_ n1_ n2_ n3_ n4_ n5_ n6_ n7_ n8_ n9_ n10_ n11_ n12_; (try clear hb); (try clear hb2); (try clear hk); (try clear hi)))
           go_meet
           case rel => exact ⟨_, (true), (by first | rfl | (simp; done) | (simp [*]; done)), H', ⟨by have := HJ13.out; first | omega | exact Nat.le_refl _⟩, ⟨by (with_reducible repeat (first | apply Kd.R_alloc | apply Kd.R_drewN | apply Kd.R_drew)); exact Kd.R_mono HO_382002.out (fun _ hk => ⟨hk.1, ⟨hk.2.1, ⟨hk.2.2.1, ⟨hk.2.2.2.1, hk.2.2.2.2.1⟩⟩⟩⟩)⟩, ⟨by (with_reducible repeat (first | apply Kd.R_alloc | apply Kd.R_drewN | apply Kd.R_drew)); exact Kd.R_mono HO_382003.out (fun _ hk => ⟨hk.1, ⟨hk.2.1, ⟨hk.2.2.1, ⟨hk.2.2.2.1, hk.2.2.2.2.1⟩⟩⟩⟩)⟩, ⟨by (with_reducible repeat (first | apply Kd.R_alloc | apply Kd.R_drewN | apply Kd.R_drew)); exact Kd.R_mono HO_391002.out (fun _ hk => ⟨hk.1.1.1, ⟨hk.1.1.2.1, ⟨hk.1.1.2.2.1, ⟨hk.1.1.2.2.2.1, hk.1.1.2.2.2.2⟩⟩⟩⟩)⟩, ⟨by (with_reducible repeat (first | apply Kd.R_alloc | apply Kd.R_drewN | apply Kd.R_drew)); exact Kd.R_mono HO_391003.out (fun _ hk => ⟨hk.1.1.1, ⟨hk.1.1.2.1, ⟨hk.1.1.2.2.1, ⟨hk.1.1.2.2.2.1, hk.1.1.2.2.2.2⟩⟩⟩⟩)⟩, ⟨by (with_reducible repeat (first | apply Kd.R_alloc | apply Kd.R_drewN | apply Kd.R_drew)); exact Kd.R_mono HO_402002.out (fun _ hk => ⟨hk.1, ⟨hk.2.1, ⟨hk.2.2.1, ⟨hk.2.2.2.1, hk.2.2.2.2.1⟩⟩⟩⟩)⟩, ⟨by (with_reducible repeat (first | apply Kd.R_alloc | apply Kd.R_drewN | apply Kd.R_drew)); exact Kd.R_mono HO_402003.out (fun _ hk => ⟨hk.1, ⟨hk.2.1, ⟨hk.2.2.1, ⟨hk.2.2.2.1, hk.2.2.2.2.1⟩⟩⟩⟩)⟩, ⟨bk BK361.out⟩, ⟨bk BK381.out⟩, ⟨bk BK390.out⟩, ⟨bk BK401.out⟩, ⟨bl4 HB.out GE361.out GE381.out GE390.out GE401.out⟩⟩
         ·replace c89 := Bool.eq_false_iff.mpr c89
          subst c89
          have H1 : (laws_FnExactGetEntry.j1 kj13 a1 t379 t380 true a0_0 a0_1 l0_2 l0_3 t371 t372 t373 t376 t391 t392 t393 t396) = some r := by rw [if_neg (show ¬ (false = true) by decide)] at H; exact H
          clear H
          have H := H1
          clear H1
          have H' := Aside0.mk H
          clear H
          have hnb107 := NB401_361.out
          have hnc107 := NB361_401.out
          have hnb108 := NB401_381.out
          have hnc108 := NB381_401.out
          have hnb109 := NB401_390.out
          have hnc109 := NB390_401.out
          have hcz110_0 : w86.cell? ⟨gb401, 0, none⟩ = some (.int .i64 t391) := (blk_cell BK401.out 0).trans rfl
          have hcz110_1 : w86.cell? ⟨gb401, 1, none⟩ = some (.int .i64 t392) := (blk_cell BK401.out 1).trans rfl
          have hcz110_2 : w86.cell? ⟨gb401, 2, none⟩ = some (.slice Ao42 t393.length co42) := (blk_cell BK401.out 2).trans rfl
          have hcz110_3 : w86.cell? ⟨gb401, 3, none⟩ = some (.slice Ao43 t396.length co43) := (blk_cell BK401.out 3).trans rfl
          have hfz110_0 := blk_frozen BK401.out 0
          have hfz110_1 := blk_frozen BK401.out 1
          have hfz110_2 := blk_frozen BK401.out 2
          have hfz110_3 := blk_frozen BK401.out 3
          have hnb111 := NB381_361.out
          have hnc111 := NB361_381.out
          have hnb112 := NB381_390.out
          have hnc112 := NB390_381.out
          have hcz113_0 : w86.cell? ⟨gb381, 0, none⟩ = some (.int .i64 t371) := (blk_cell BK381.out 0).trans rfl
          have hcz113_1 : w86.cell? ⟨gb381, 1, none⟩ = some (.int .i64 t372) := (blk_cell BK381.out 1).trans rfl
          have hcz113_2 : w86.cell? ⟨gb381, 2, none⟩ = some (.slice Ao26 t373.length co26) := (blk_cell BK381.out 2).trans rfl
          have hcz113_3 : w86.cell? ⟨gb381, 3, none⟩ = some (.slice Ao27 t376.length co27) := (blk_cell BK381.out 3).trans rfl
          have hfz113_0 := blk_frozen BK381.out 0
          have hfz113_1 := blk_frozen BK381.out 1
          have hfz113_2 := blk_frozen BK381.out 2
          have hfz113_3 := blk_frozen BK381.out 3
          go_wp2_with (first | (go_at_call 13; (with_reducible refine (laws_eqSegmented.calls kj13 t391 t392 _ _ t393 _ _ t396 t371 t372 _ _ t373 _ _ t376 false _ ?side1 ?side2 ?side3 ?side4 ?side5 ?side6 ?side7 ?side8 A88.out).mono ?_); (case side1 => exact kc (Kd.R_reads' HO_402002.out).2.2); (case side2 => exact (Kd.R_reads' HO_402002.out).2.1); (case side3 => exact kc (Kd.R_reads' HO_402003.out).2.2); (case side4 => exact (Kd.R_reads' HO_402003.out).2.1); (case side5 => exact kc (Kd.R_reads' HO_382002.out).2.2); (case side6 => exact (Kd.R_reads' HO_382002.out).2.1); (case side7 => exact kc (Kd.R_reads' HO_382003.out).2.2); (case side8 => exact (Kd.R_reads' HO_382003.out).2.1); rintro e w114 ⟨rfl, hb⟩; have n0_ := Aside0.mk (Kd.R_below (kr HO_382002.out) hb); have n1_ := Aside0.mk (Kd.R_below (kr HO_382003.out) hb); have n2_ := Aside0.mk (Kd.R_below (kr HO_391002.out) hb); have n3_ := Aside0.mk (Kd.R_below (kr HO_391003.out) hb); have n4_ := Aside0.mk (Kd.R_below (kr HO_402002.out) hb); have n5_ := Aside0.mk (Kd.R_below (kr HO_402003.out) hb); have n6_ := Aside0.mk (Kd.R_below (kr HO407.out) hb); have n7_ := Aside0.mk (Kd.R_below (kr HO410.out) hb); have n8_ := Aside0.mk (blk_below (g := gb361) (o := .cells #[.int .i64 a0_0, .int .i64 a0_1, .slice A0_2 l0_2.length c0_2, .slice A0_3 l0_3.length c0_3] 24 (0, 0)) (bk BK361.out) hb); have n9_ := Aside0.mk (blk_below (g := gb381) (o := .cells #[.int .i64 t371, .int .i64 t372, .slice Ao26 t373.length co26, .slice Ao27 t376.length co27] 28 (0, 0)) (bk BK381.out) hb); have n10_ := Aside0.mk (blk_below (g := gb390) (o := .cells #[.int .i64 t382, .int .i64 t383, .slice Ao34 t384.length co34, .slice Ao35 t387.length co35] 28 (0, 0)) (bk BK390.out) hb); have n11_ := Aside0.mk (blk_below (g := gb401) (o := .cells #[.int .i64 t391, .int .i64 t392, .slice Ao42 t393.length co42, .slice Ao43 t396.length co43] 28 (0, 0)) (bk BK401.out) hb); have n12_ := Aside0.mk (below_step (bl4 HB.out GE361.out GE381.out GE390.out GE401.out) hb); clear HO_382002; clear HO_382003; clear HO_391002; clear HO_391003; clear HO_402002; clear HO_402003; clear HO407; clear HO410; clear BK361; clear BK381; clear BK390; clear BK401; clear HB; have HO_382002 := n0_; have HO_382003 := n1_; have HO_391002 := n2_; have HO_391003 := n3_; have HO_402002 := n4_; have HO_402003 := n5_; have HO407 := n6_; have HO410 := n7_; have BK361 := n8_; have BK381 := n9_; have BK390 := n10_; have BK401 := n11_; have HB := n12_; clear n0_ n1_ n2_ n3_ n4_ n5_ n6_ n7_ n8_ n9_ n10_ n11_ n12_; (try clear hb); (try clear hb2); (try clear hk); (try clear hi)))
          go_meet
          case rel => exact ⟨_, (true), (by first | rfl | (simp; done) | (simp [*]; done)), H', ⟨by have := HJ13.out; first | omega | exact Nat.le_refl _⟩, ⟨by (with_reducible repeat (first | apply Kd.R_alloc | apply Kd.R_drewN | apply Kd.R_drew)); exact Kd.R_mono HO_382002.out (fun _ hk => ⟨hk.1, ⟨hk.2.1, ⟨hk.2.2.1, ⟨hk.2.2.2.1, hk.2.2.2.2.1⟩⟩⟩⟩)⟩, ⟨by (with_reducible repeat (first | apply Kd.R_alloc | apply Kd.R_drewN | apply Kd.R_drew)); exact Kd.R_mono HO_382003.out (fun _ hk => ⟨hk.1, ⟨hk.2.1, ⟨hk.2.2.1, ⟨hk.2.2.2.1, hk.2.2.2.2.1⟩⟩⟩⟩)⟩, ⟨by (with_reducible repeat (first | apply Kd.R_alloc | apply Kd.R_drewN | apply Kd.R_drew)); exact Kd.R_mono HO_391002.out (fun _ hk => ⟨hk.1.1.1, ⟨hk.1.1.2.1, ⟨hk.1.1.2.2.1, ⟨hk.1.1.2.2.2.1, hk.1.1.2.2.2.2⟩⟩⟩⟩)⟩, ⟨by (with_reducible repeat (first | apply Kd.R_alloc | apply Kd.R_drewN | apply Kd.R_drew)); exact Kd.R_mono HO_391003.out (fun _ hk => ⟨hk.1.1.1, ⟨hk.1.1.2.1, ⟨hk.1.1.2.2.1, ⟨hk.1.1.2.2.2.1, hk.1.1.2.2.2.2⟩⟩⟩⟩)⟩, ⟨by (with_reducible repeat (first | apply Kd.R_alloc | apply Kd.R_drewN | apply Kd.R_drew)); exact Kd.R_mono HO_402002.out (fun _ hk => ⟨hk.1, ⟨hk.2.1, ⟨hk.2.2.1, ⟨hk.2.2.2.1, hk.2.2.2.2.1⟩⟩⟩⟩)⟩, ⟨by (with_reducible repeat (first | apply Kd.R_alloc | apply Kd.R_drewN | apply Kd.R_drew)); exact Kd.R_mono HO_402003.out (fun _ hk => ⟨hk.1, ⟨hk.2.1, ⟨hk.2.2.1, ⟨hk.2.2.2.1, hk.2.2.2.2.1⟩⟩⟩⟩)⟩, ⟨bk BK361.out⟩, ⟨bk BK381.out⟩, ⟨bk BK390.out⟩, ⟨bk BK401.out⟩, ⟨bl4 HB.out GE361.out GE381.out GE390.out GE401.out⟩⟩
       case rest =>
        clear HC76
        try clear c1
        try clear c2
        try clear p2
        try clear c3
        try clear c3b0
        try clear c3b1
        try clear c4
        try clear c5
        try clear c6
        try clear c6b0
        try clear c7
        try clear c8
        try clear c9
        try clear c10
        try clear c11
        try clear c13
        try clear c14
        try clear c24
        try clear c30
        try clear c31
        try clear c32
        try clear c38
        try clear c39
        try clear c40
        try clear c45
        try clear c46
        try clear c46b0
        try clear c46b1
        try clear c47
        try clear c48
        try clear c49
        try clear c51
        try clear c52
        try clear c55
        try clear c56
        try clear c57
        try clear c59
        try clear c60
        try clear c63
        try clear c64
        try clear c65
        try clear c67
        try clear c68
        try clear c71
        try clear c74
        try clear c82
        try clear c83
        try clear c84
        try clear c87
        try clear c87b0
        try clear c89
        try clear c90
        try clear c90b0
        try clear c90b1
        try clear c91
        try clear c92
        try clear c93
        try clear c95
        try clear c96
        try clear c99
        try clear c100
        try clear c101
        try clear c103
        try clear c104
        try clear c107
        try clear c108
        try clear c109
        try clear c111
        try clear c112
        try clear hcz102_0
        try clear hcz102_1
        try clear hcz102_2
        try clear hcz102_3
        try clear hcz105_0
        try clear hcz105_1
        try clear hcz105_2
        try clear hcz105_3
        try clear hcz110_0
        try clear hcz110_1
        try clear hcz110_2
        try clear hcz110_3
        try clear hcz113_0
        try clear hcz113_1
        try clear hcz113_2
        try clear hcz113_3
        try clear hcz16_0
        try clear hcz16_1
        try clear hcz16_2
        try clear hcz16_3
        try clear hcz18_0
        try clear hcz18_1
        try clear hcz18_2
        try clear hcz18_3
        try clear hcz25_0
        try clear hcz25_1
        try clear hcz25_2
        try clear hcz25_3
        try clear hcz28_0
        try clear hcz28_1
        try clear hcz28_2
        try clear hcz28_3
        try clear hcz33_0
        try clear hcz33_1
        try clear hcz33_2
        try clear hcz33_3
        try clear hcz41_0
        try clear hcz41_1
        try clear hcz41_2
        try clear hcz41_3
        try clear hcz50_0
        try clear hcz50_1
        try clear hcz50_2
        try clear hcz50_3
        try clear hcz53_0
        try clear hcz53_1
        try clear hcz53_2
        try clear hcz53_3
        try clear hcz58_0
        try clear hcz58_1
        try clear hcz58_2
        try clear hcz58_3
        try clear hcz61_0
        try clear hcz61_1
        try clear hcz61_2
        try clear hcz61_3
        try clear hcz66_0
        try clear hcz66_1
        try clear hcz66_2
        try clear hcz66_3
        try clear hcz69_0
        try clear hcz69_1
        try clear hcz69_2
        try clear hcz69_3
        try clear hcz85_0
        try clear hcz85_1
        try clear hcz85_2
        try clear hcz85_3
        try clear hcz8_0
        try clear hcz8_1
        try clear hcz8_2
        try clear hcz8_3
        try clear hcz94_0
        try clear hcz94_1
        try clear hcz94_2
        try clear hcz94_3
        try clear hcz97_0
        try clear hcz97_1
        try clear hcz97_2
        try clear hcz97_3
        try clear hfz102_0
        try clear hfz102_1
        try clear hfz102_2
        try clear hfz102_3
        try clear hfz105_0
        try clear hfz105_1
        try clear hfz105_2
        try clear hfz105_3
        try clear hfz110_0
        try clear hfz110_1
        try clear hfz110_2
        try clear hfz110_3
        try clear hfz113_0
        try clear hfz113_1
        try clear hfz113_2
        try clear hfz113_3
        try clear hfz16_0
        try clear hfz16_1
        try clear hfz16_2
        try clear hfz16_3
        try clear hfz18_0
        try clear hfz18_1
        try clear hfz18_2
        try clear hfz18_3
        try clear hfz25_0
        try clear hfz25_1
        try clear hfz25_2
        try clear hfz25_3
        try clear hfz28_0
        try clear hfz28_1
        try clear hfz28_2
        try clear hfz28_3
        try clear hfz33_0
        try clear hfz33_1
        try clear hfz33_2
        try clear hfz33_3
        try clear hfz41_0
        try clear hfz41_1
        try clear hfz41_2
        try clear hfz41_3
        try clear hfz50_0
        try clear hfz50_1
        try clear hfz50_2
        try clear hfz50_3
        try clear hfz53_0
        try clear hfz53_1
        try clear hfz53_2
        try clear hfz53_3
        try clear hfz58_0
        try clear hfz58_1
        try clear hfz58_2
        try clear hfz58_3
        try clear hfz61_0
        try clear hfz61_1
        try clear hfz61_2
        try clear hfz61_3
        try clear hfz66_0
        try clear hfz66_1
        try clear hfz66_2
        try clear hfz66_3
        try clear hfz69_0
        try clear hfz69_1
        try clear hfz69_2
        try clear hfz69_3
        try clear hfz85_0
        try clear hfz85_1
        try clear hfz85_2
        try clear hfz85_3
        try clear hfz8_0
        try clear hfz8_1
        try clear hfz8_2
        try clear hfz8_3
        try clear hfz94_0
        try clear hfz94_1
        try clear hfz94_2
        try clear hfz94_3
        try clear hfz97_0
        try clear hfz97_1
        try clear hfz97_2
        try clear hfz97_3
        try clear p2
        obtain ⟨kq, x83_75, rfl, HA, HJ75, HO_382002, HO_382003, HO_391002, HO_391003, HO_402002, HO_402003, BK361, BK381, BK390, BK401, HB⟩ := hcut
        have hl391002_75 := (Kd.R_reads' HO_391002.out).1
        rw [hl391002_75] at HO_391002
        (try simp only [hl391002_75])
        (try simp only [hl391002_75] at BK361)
        (try simp only [hl391002_75] at BK381)
        (try simp only [hl391002_75] at BK390)
        (try simp only [hl391002_75] at BK401)
        (try simp only [hl391002_75] at HO_382002)
        (try simp only [hl391002_75] at HO_382003)
        (try simp only [hl391002_75] at HO_391003)
        (try simp only [hl391002_75] at HO_402002)
        (try simp only [hl391002_75] at HO_402003)
        have hl391003_75 := (Kd.R_reads' HO_391003.out).1
        rw [hl391003_75] at HO_391003
        (try simp only [hl391003_75])
        (try simp only [hl391003_75] at BK361)
        (try simp only [hl391003_75] at BK381)
        (try simp only [hl391003_75] at BK390)
        (try simp only [hl391003_75] at BK401)
        (try simp only [hl391003_75] at HO_382002)
        (try simp only [hl391003_75] at HO_382003)
        (try simp only [hl391003_75] at HO_391002)
        (try simp only [hl391003_75] at HO_402002)
        (try simp only [hl391003_75] at HO_402003)
        cases kq with
        | zero => exact absurd HA.out (by simp [laws_FnExactGetEntry.j1])
        | succ kj75 =>
         have H := HA.out
         clear HA
         simp only [laws_FnExactGetEntry.j1] at H
         by_cases c115 : x83_75 = true
         ·subst c115
          have H1 : (none) = some r := by rw [if_pos rfl] at H; exact H
          clear H
          have H := H1
          clear H1
          exact absurd H (by simp)
         ·replace c115 := Bool.eq_false_iff.mpr c115
          subst c115
          have H1 : ((laws_markSegmented.f kj75 t391 t392 t393 t396 1).bind fun bt416 => ((laws_heldSegmented.f kj75 t391 t392 bt416.2.1 bt416.2.2 1).bind fun t419 => (if t419 < 0 then (none) else (if t419 = bt416.1 then ((laws_toSegmented.f kj75 a0_0 a0_1 l0_2 l0_3).bind fun bt420 => ((impl_GetEntry.f kj75 bt420.1 bt420.2.1 bt420.2.2.1 bt420.2.2.2 a1).bind fun bt428 => ((laws_eqSegmented.f kj75 bt428.1 bt428.2.1 bt428.2.2.1 bt428.2.2.2.1 t371 t372 t373 t376).bind fun t439 => (if t439 = true then (if bt428.2.2.2.2.1.toList = t379.toList then (if (bt428.2.2.2.2.2 != t380) = true then (none) else ((laws_heldSegmented.f kj75 t391 t392 bt416.2.1 bt416.2.2 1).bind fun t440 => (if t440 < 0 then (none) else (if t440 = bt416.1 then (some true) else (none))))) else (none)) else (none))))) else (none))))) = some r := by rw [if_neg (show ¬ (false = true) by decide)] at H; exact H
          clear H
          have H := H1
          clear H1
          replace H := Option.bind_eq_some_iff.mp H
          obtain ⟨⟨t416, t417, t418⟩, A1160, H⟩ := H
          try dsimp only at H
          have A116 := Aside0.mk A1160
          clear A1160
          replace H := Option.bind_eq_some_iff.mp H
          obtain ⟨t419, A1170, H⟩ := H
          try dsimp only at H
          have A117 := Aside0.mk A1170
          clear A1170
          by_cases c118 : t419 < 0
          ·rw [if_pos c118] at H
           exact absurd H (by simp)
          ·rw [if_neg c118] at H
           have c118b0 : decide (t419 < 0) = false := decide_eq_false c118
           clear c118
           (try (have c118r0 := c118b0; simp only [hl391002_75, hl391003_75] at c118r0))
           by_cases c119 : t419 = t416
           ·rw [if_pos c119] at H
            have c119b0 : (t419 == t416) = true := beq_iff_eq.mpr c119
            have c119b1 : (t419 != t416) = false := bne_eq_false_iff_eq.mpr c119
            clear c119
            (try (have c119r0 := c119b0; simp only [hl391002_75, hl391003_75] at c119r0))
            (try (have c119r1 := c119b1; simp only [hl391002_75, hl391003_75] at c119r1))
            replace H := Option.bind_eq_some_iff.mp H
            obtain ⟨⟨t420, t421, t422, t425⟩, A1200, H⟩ := H
            try dsimp only at H
            have A120 := Aside0.mk A1200
            clear A1200
            replace H := Option.bind_eq_some_iff.mp H
            obtain ⟨⟨t428, t429, t430, t433, t436, t437⟩, A1210, H⟩ := H
            try dsimp only at H
            have A121 := Aside0.mk A1210
            clear A1210
            replace H := Option.bind_eq_some_iff.mp H
            obtain ⟨t439, A1220, H⟩ := H
            try dsimp only at H
            have A122 := Aside0.mk A1220
            clear A1220
            by_cases c123 : t439 = true
            ·subst c123
             have H1 : (if t436.toList = t379.toList then (if (t437 != t380) = true then (none) else ((laws_heldSegmented.f kj75 t391 t392 t417 t418 1).bind fun t440 => (if t440 < 0 then (none) else (if t440 = t416 then (some true) else (none))))) else (none)) = some r := by rw [if_pos rfl] at H; exact H
             clear H
             have H := H1
             clear H1
             by_cases c124 : t436.toList = t379.toList
             ·rw [if_pos c124] at H
              have c124b0 : (t436.toList == t379.toList) = true := beq_iff_eq.mpr c124
              have c124b1 : (t436.toList != t379.toList) = false := bne_eq_false_iff_eq.mpr c124
              clear c124
              (try (have c124r0 := c124b0; simp only [hl391002_75, hl391003_75] at c124r0))
              (try (have c124r1 := c124b1; simp only [hl391002_75, hl391003_75] at c124r1))
              by_cases c125 : (t437 != t380) = true
              ·rw [if_pos c125] at H
               exact absurd H (by simp)
              ·rw [if_neg c125] at H
               have c125b0 : (t437 != t380) = false := by simpa using c125
               (try (have c125b1 : decide (t437 = t380) = true := by simpa using c125))
               (try (have c125b2 : (t437 == t380) = true := by simpa using c125))
               clear c125
               (try (have c125r0 := c125b0; simp only [hl391002_75, hl391003_75] at c125r0))
               (try (have c125r1 := c125b1; simp only [hl391002_75, hl391003_75] at c125r1))
               (try (have c125r2 := c125b2; simp only [hl391002_75, hl391003_75] at c125r2))
               replace H := Option.bind_eq_some_iff.mp H
               obtain ⟨t440, A1260, H⟩ := H
               try dsimp only at H
               have A126 := Aside0.mk A1260
               clear A1260
               by_cases c127 : t440 < 0
               ·rw [if_pos c127] at H
                exact absurd H (by simp)
               ·rw [if_neg c127] at H
                have c127b0 : decide (t440 < 0) = false := decide_eq_false c127
                clear c127
                (try (have c127r0 := c127b0; simp only [hl391002_75, hl391003_75] at c127r0))
                by_cases c128 : t440 = t416
                ·rw [if_pos c128] at H
                 have c128b0 : (t440 == t416) = true := beq_iff_eq.mpr c128
                 have c128b1 : (t440 != t416) = false := bne_eq_false_iff_eq.mpr c128
                 clear c128
                 (try (have c128r0 := c128b0; simp only [hl391002_75, hl391003_75] at c128r0))
                 (try (have c128r1 := c128b1; simp only [hl391002_75, hl391003_75] at c128r1))
                 obtain rfl := Option.some.inj H
                 have hnb129 := NB401_361.out
                 have hnc129 := NB361_401.out
                 have hnb130 := NB401_381.out
                 have hnc130 := NB381_401.out
                 have hnb131 := NB401_390.out
                 have hnc131 := NB390_401.out
                 have hcz132_0 : wc.cell? ⟨gb401, 0, none⟩ = some (.int .i64 t391) := (blk_cell BK401.out 0).trans rfl
                 have hcz132_1 : wc.cell? ⟨gb401, 1, none⟩ = some (.int .i64 t392) := (blk_cell BK401.out 1).trans rfl
                 have hcz132_2 : wc.cell? ⟨gb401, 2, none⟩ = some (.slice Ao42 t393.length co42) := (blk_cell BK401.out 2).trans rfl
                 have hcz132_3 : wc.cell? ⟨gb401, 3, none⟩ = some (.slice Ao43 t396.length co43) := (blk_cell BK401.out 3).trans rfl
                 have hfz132_0 := blk_frozen BK401.out 0
                 have hfz132_1 := blk_frozen BK401.out 1
                 have hfz132_2 := blk_frozen BK401.out 2
                 have hfz132_3 := blk_frozen BK401.out 3
                 go_wp2_with (first | ((with_reducible refine gate_callee (f := 14) rfl ?_); refine goesL_ (some 86) rfl rfl Try.func14 (by kernel_rfl) rfl #[.agg #[.int .i64 t391, .int .i64 t392, .slice Ao42 t393.length co42, .slice Ao43 t396.length co43], .int .i64 1] rfl (by (try simp only [List.map_toArray, List.map_cons, List.map_nil]); first | done | rfl | (simp only [List.length_drop, List.length_take]; rfl)) ?_; (with_reducible refine (laws_markSegmented.calls kj75 t391 t392 (fun k_ => some k_ = (.slice Ao42 t393.length co42 : Value).ownBlock) (.slice Ao42 t393.length co42) t393 (fun k_ => some k_ = (.slice Ao43 t396.length co43 : Value).ownBlock) (.slice Ao43 t396.length co43) t396 1 t416 t417 t418 w _ ?side1 ?side2 ?side3 ?side4 ?side5 A116.out).mono ?_); (case side1 => exact bl4 HB.out GE361.out GE381.out GE390.out GE401.out); (case side2 => exact Kd.R_tight rfl HO_402002.out); (case side3 => exact fun k_ e_ => (HO_402002.out.1 k_ e_.symm).2.2.2.2); (case side4 => exact Kd.R_tight rfl HO_402003.out); (case side5 => exact fun k_ e_ => (HO_402003.out.1 k_ e_.symm).2.2.2.2); rintro e w133 ⟨rfl, hy0, hy1, hb, hkp⟩; refine ⟨_, rfl, ?_⟩; have n0_ := Aside0.mk (Kd.R_mono (ok' := fun k_ => some k_ ≠ (.slice Ao27 t376.length co27 : Value).ownBlock ∧ some k_ ≠ (.slice Ao34 t413.length co34 : Value).ownBlock ∧ some k_ ≠ (.slice Ao35 t414.length co35 : Value).ownBlock ∧ some k_ ≠ (.slice Ao42 t393.length co42 : Value).ownBlock ∧ some k_ ≠ (.slice Ao43 t396.length co43 : Value).ownBlock) (Kd.R_keptB (HO_382002.out) hkp (fun k_ hk_ hs_ => Or.elim hs_ (fun e_ => (hk_.2.2.2.1) e_) (fun e_ => (hk_.2.2.2.2) e_))) (fun k_ hk_ => ⟨hk_.1.1, hk_.1.2.1, hk_.1.2.2.1, hk_.1.2.2.2.1, hk_.1.2.2.2.2⟩)); have n1_ := Aside0.mk (Kd.R_mono (ok' := fun k_ => some k_ ≠ (.slice Ao26 t373.length co26 : Value).ownBlock ∧ some k_ ≠ (.slice Ao34 t413.length co34 : Value).ownBlock ∧ some k_ ≠ (.slice Ao35 t414.length co35 : Value).ownBlock ∧ some k_ ≠ (.slice Ao42 t393.length co42 : Value).ownBlock ∧ some k_ ≠ (.slice Ao43 t396.length co43 : Value).ownBlock) (Kd.R_keptB (HO_382003.out) hkp (fun k_ hk_ hs_ => Or.elim hs_ (fun e_ => (hk_.2.2.2.1) e_) (fun e_ => (hk_.2.2.2.2) e_))) (fun k_ hk_ => ⟨hk_.1.1, hk_.1.2.1, hk_.1.2.2.1, hk_.1.2.2.2.1, hk_.1.2.2.2.2⟩)); have n2_ := Aside0.mk (Kd.R_mono (ok' := fun k_ => some k_ ≠ (.slice Ao26 t373.length co26 : Value).ownBlock ∧ some k_ ≠ (.slice Ao27 t376.length co27 : Value).ownBlock ∧ some k_ ≠ (.slice Ao35 t414.length co35 : Value).ownBlock ∧ some k_ ≠ (.slice Ao42 t393.length co42 : Value).ownBlock ∧ some k_ ≠ (.slice Ao43 t396.length co43 : Value).ownBlock) (Kd.R_keptB (HO_391002.out) hkp (fun k_ hk_ hs_ => Or.elim hs_ (fun e_ => (hk_.2.2.2.1) e_) (fun e_ => (hk_.2.2.2.2) e_))) (fun k_ hk_ => ⟨hk_.1.1, hk_.1.2.1, hk_.1.2.2.1, hk_.1.2.2.2.1, hk_.1.2.2.2.2⟩)); have n3_ := Aside0.mk (Kd.R_mono (ok' := fun k_ => some k_ ≠ (.slice Ao26 t373.length co26 : Value).ownBlock ∧ some k_ ≠ (.slice Ao27 t376.length co27 : Value).ownBlock ∧ some k_ ≠ (.slice Ao34 t413.length co34 : Value).ownBlock ∧ some k_ ≠ (.slice Ao42 t393.length co42 : Value).ownBlock ∧ some k_ ≠ (.slice Ao43 t396.length co43 : Value).ownBlock) (Kd.R_keptB (HO_391003.out) hkp (fun k_ hk_ hs_ => Or.elim hs_ (fun e_ => (hk_.2.2.2.1) e_) (fun e_ => (hk_.2.2.2.2) e_))) (fun k_ hk_ => ⟨hk_.1.1, hk_.1.2.1, hk_.1.2.2.1, hk_.1.2.2.2.1, hk_.1.2.2.2.2⟩)); have n4_ := Aside0.mk (Kd.R_reok rfl hy0 (fun k_ e_ => HO_402002.out.1 k_ e_)); have n5_ := Aside0.mk (Kd.R_reok rfl hy1 (fun k_ e_ => HO_402003.out.1 k_ e_)); have n6_ := Aside0.mk (blk_kept (bk BK361.out) hkp (fun hs_ => Or.elim hs_ (fun e_ => (fun e_ => (Kd.R_ne HO_402002.out BK361.out (by decide)) e_) e_) (fun e_ => (fun e_ => (Kd.R_ne HO_402003.out BK361.out (by decide)) e_) e_))); have n7_ := Aside0.mk (blk_kept (bk BK381.out) hkp (fun hs_ => Or.elim hs_ (fun e_ => (fun e_ => (Kd.R_ne HO_402002.out BK381.out (by decide)) e_) e_) (fun e_ => (fun e_ => (Kd.R_ne HO_402003.out BK381.out (by decide)) e_) e_))); have n8_ := Aside0.mk (blk_kept (bk BK390.out) hkp (fun hs_ => Or.elim hs_ (fun e_ => (fun e_ => (Kd.R_ne HO_402002.out BK390.out (by decide)) e_) e_) (fun e_ => (fun e_ => (Kd.R_ne HO_402003.out BK390.out (by decide)) e_) e_))); have n9_ := Aside0.mk (blk_kept (bk BK401.out) hkp (fun hs_ => Or.elim hs_ (fun e_ => (fun e_ => (Kd.R_ne HO_402002.out BK401.out (by decide)) e_) e_) (fun e_ => (fun e_ => (Kd.R_ne HO_402003.out BK401.out (by decide)) e_) e_))); have n10_ := Aside0.mk (hb); clear HO_382002; clear HO_382003; clear HO_391002; clear HO_391003; clear HO_402002; clear HO_402003; clear BK361; clear BK381; clear BK390; clear BK401; clear HB; have HO_382002 := n0_; have HO_382003 := n1_; have HO_391002 := n2_; have HO_391003 := n3_; have HO_402002 := n4_; have HO_402003 := n5_; have BK361 := n6_; have BK381 := n7_; have BK390 := n8_; have BK401 := n9_; have HB := n10_; clear n0_ n1_ n2_ n3_ n4_ n5_ n6_ n7_ n8_ n9_ n10_; (try clear hb); (try clear hkp); (try clear hy0); (try clear hy1); have hcz134_0 : w133.cell? ⟨gb401, 0, none⟩ = some (.int .i64 t391) := (blk_cell BK401.out 0).trans rfl; have hcz134_1 : w133.cell? ⟨gb401, 1, none⟩ = some (.int .i64 t392) := (blk_cell BK401.out 1).trans rfl; have hcz134_2 : w133.cell? ⟨gb401, 2, none⟩ = some (.slice Ao42 t393.length co42) := (blk_cell BK401.out 2).trans rfl; have hcz134_3 : w133.cell? ⟨gb401, 3, none⟩ = some (.slice Ao43 t396.length co43) := (blk_cell BK401.out 3).trans rfl; have hfz134_0 := blk_frozen BK401.out 0; have hfz134_1 := blk_frozen BK401.out 1; have hfz134_2 := blk_frozen BK401.out 2; have hfz134_3 := blk_frozen BK401.out 3) | ((with_reducible refine gate_callee (f := 15) rfl ?_); refine goesL_ (some 89) rfl rfl Try.func15 (by kernel_rfl) rfl #[.agg #[.int .i64 t391, .int .i64 t392, .slice Ao42 t417.length co42, .slice Ao43 t418.length co43], .int .i64 1] rfl (by (try simp only [List.map_toArray, List.map_cons, List.map_nil]); first | done | (rw [show t417.length = t393.length from (Kd.R_reads' HO_402002.out).1.symm, show t418.length = t396.length from (Kd.R_reads' HO_402003.out).1.symm] <;> rfl) | rfl | (simp only [List.length_drop, List.length_take]; rfl)) ?_; (with_reducible refine (laws_heldSegmented.calls kj75 t391 t392 _ _ t417 _ _ t418 1 t419 _ ?side1 ?side2 ?side3 ?side4 A117.out).mono ?_); (case side1 => exact kc (Kd.R_reads' HO_402002.out).2.2); (case side2 => rw [show t417.length = t393.length from (Kd.R_reads' HO_402002.out).1.symm]; exact (Kd.R_reads' HO_402002.out).2.1); (case side3 => exact kc (Kd.R_reads' HO_402003.out).2.2); (case side4 => rw [show t418.length = t396.length from (Kd.R_reads' HO_402003.out).1.symm]; exact (Kd.R_reads' HO_402003.out).2.1); rintro e w135 ⟨rfl, hb⟩; refine ⟨_, rfl, ?_⟩; have n0_ := Aside0.mk (Kd.R_below (kr HO_382002.out) hb); have n1_ := Aside0.mk (Kd.R_below (kr HO_382003.out) hb); have n2_ := Aside0.mk (Kd.R_below (kr HO_391002.out) hb); have n3_ := Aside0.mk (Kd.R_below (kr HO_391003.out) hb); have n4_ := Aside0.mk (Kd.R_below (kr HO_402002.out) hb); have n5_ := Aside0.mk (Kd.R_below (kr HO_402003.out) hb); have n6_ := Aside0.mk (blk_below (g := gb361) (o := .cells #[.int .i64 a0_0, .int .i64 a0_1, .slice A0_2 l0_2.length c0_2, .slice A0_3 l0_3.length c0_3] 24 (0, 0)) (bk BK361.out) hb); have n7_ := Aside0.mk (blk_below (g := gb381) (o := .cells #[.int .i64 t371, .int .i64 t372, .slice Ao26 t373.length co26, .slice Ao27 t376.length co27] 28 (0, 0)) (bk BK381.out) hb); have n8_ := Aside0.mk (blk_below (g := gb390) (o := .cells #[.int .i64 t382, .int .i64 t383, .slice Ao34 t413.length co34, .slice Ao35 t414.length co35] 28 (0, 0)) (bk BK390.out) hb); have n9_ := Aside0.mk (blk_below (g := gb401) (o := .cells #[.int .i64 t391, .int .i64 t392, .slice Ao42 t393.length co42, .slice Ao43 t396.length co43] 28 (0, 0)) (bk BK401.out) hb); have n10_ := Aside0.mk (below_step (bl4 HB.out GE361.out GE381.out GE390.out GE401.out) hb); clear HO_382002; clear HO_382003; clear HO_391002; clear HO_391003; clear HO_402002; clear HO_402003; clear BK361; clear BK381; clear BK390; clear BK401; clear HB; have HO_382002 := n0_; have HO_382003 := n1_; have HO_391002 := n2_; have HO_391003 := n3_; have HO_402002 := n4_; have HO_402003 := n5_; have BK361 := n6_; have BK381 := n7_; have BK390 := n8_; have BK401 := n9_; have HB := n10_; clear n0_ n1_ n2_ n3_ n4_ n5_ n6_ n7_ n8_ n9_ n10_; (try clear hb); (try clear hb2); (try clear hk); (try clear hi); have hnb136 := NB361_381.out; have hnc136 := NB381_361.out; have hnb137 := NB361_390.out; have hnc137 := NB390_361.out; have hcz138_0 : w135.cell? ⟨gb361, 0, none⟩ = some (.int .i64 a0_0) := (blk_cell BK361.out 0).trans rfl; have hcz138_1 : w135.cell? ⟨gb361, 1, none⟩ = some (.int .i64 a0_1) := (blk_cell BK361.out 1).trans rfl; have hcz138_2 : w135.cell? ⟨gb361, 2, none⟩ = some (.slice A0_2 l0_2.length c0_2) := (blk_cell BK361.out 2).trans rfl; have hcz138_3 : w135.cell? ⟨gb361, 3, none⟩ = some (.slice A0_3 l0_3.length c0_3) := (blk_cell BK361.out 3).trans rfl; have hfz138_0 := blk_frozen BK361.out 0; have hfz138_1 := blk_frozen BK361.out 1; have hfz138_2 := blk_frozen BK361.out 2; have hfz138_3 := blk_frozen BK361.out 3) | ((with_reducible refine gate_callee (f := 11) rfl ?_); refine goesL_ (some 97) rfl rfl Try.func11 (by kernel_rfl) rfl #[.agg #[.int .i64 a0_0, .int .i64 a0_1, .slice A0_2 l0_2.length c0_2, .slice A0_3 l0_3.length c0_3]] rfl (by (try simp only [List.map_toArray, List.map_cons, List.map_nil]); first | done | rfl | (simp only [List.length_drop, List.length_take]; rfl)) ?_; (with_reducible refine (laws_toSegmented.calls kj75 a0_0 a0_1 _ _ l0_2 _ _ l0_3 t420 t421 t422 t425 _ ?side1 ?side2 ?side3 ?side4 A120.out).mono ?_); (case side1 => exact kc (Kd.C_below HR0_2.out HB.out)); (case side2 => exact HC0_2.out); (case side3 => exact kc (Kd.C_below HR0_3.out HB.out)); (case side4 => exact HC0_3.out); rintro e w139 ⟨v423, v426, rfl, ho0, ho1, hb⟩; refine ⟨_, rfl, ?_⟩; have n0_ := Aside0.mk (Kd.R_mono (Kd.R_told (Kd.R_told (Kd.R_old (kr HO_382002.out) hb) (Kd.R_base ho0)) (Kd.R_base ho1)) (fun _ h_ => h_.1)); have n1_ := Aside0.mk (Kd.R_mono (Kd.R_told (Kd.R_told (Kd.R_old (kr HO_382003.out) hb) (Kd.R_base ho0)) (Kd.R_base ho1)) (fun _ h_ => h_.1)); have n2_ := Aside0.mk (Kd.R_mono (Kd.R_told (Kd.R_told (Kd.R_old (kr HO_391002.out) hb) (Kd.R_base ho0)) (Kd.R_base ho1)) (fun _ h_ => h_.1)); have n3_ := Aside0.mk (Kd.R_mono (Kd.R_told (Kd.R_told (Kd.R_old (kr HO_391003.out) hb) (Kd.R_base ho0)) (Kd.R_base ho1)) (fun _ h_ => h_.1)); have n4_ := Aside0.mk (Kd.R_mono (Kd.R_told (Kd.R_told (Kd.R_old (kr HO_402002.out) hb) (Kd.R_base ho0)) (Kd.R_base ho1)) (fun _ h_ => h_.1)); have n5_ := Aside0.mk (Kd.R_mono (Kd.R_told (Kd.R_told (Kd.R_old (kr HO_402003.out) hb) (Kd.R_base ho0)) (Kd.R_base ho1)) (fun _ h_ => h_.1)); have n6_ := Aside0.mk (Kd.R_lower (Kd.R_new' (Kd.R_new' (Kd.R_new' (Kd.R_new' (Kd.R_new' (Kd.R_new' ho0 (Kd.R_lt (kr HO_382002.out))) (Kd.R_lt (kr HO_382003.out))) (Kd.R_lt (kr HO_391002.out))) (Kd.R_lt (kr HO_391003.out))) (Kd.R_lt (kr HO_402002.out))) (Kd.R_lt (kr HO_402003.out))) (below_size (bl4 HB.out GE361.out GE381.out GE390.out GE401.out))); have n7_ := Aside0.mk (Kd.R_lower (Kd.R_new' (Kd.R_new' (Kd.R_new' (Kd.R_new' (Kd.R_new' (Kd.R_new' ho1 (Kd.R_lt (kr HO_382002.out))) (Kd.R_lt (kr HO_382003.out))) (Kd.R_lt (kr HO_391002.out))) (Kd.R_lt (kr HO_391003.out))) (Kd.R_lt (kr HO_402002.out))) (Kd.R_lt (kr HO_402003.out))) (below_size (bl4 HB.out GE361.out GE381.out GE390.out GE401.out))); have n8_ := Aside0.mk (blk_below (g := gb361) (o := .cells #[.int .i64 a0_0, .int .i64 a0_1, .slice A0_2 l0_2.length c0_2, .slice A0_3 l0_3.length c0_3] 24 (0, 0)) (bk BK361.out) hb); have n9_ := Aside0.mk (blk_below (g := gb381) (o := .cells #[.int .i64 t371, .int .i64 t372, .slice Ao26 t373.length co26, .slice Ao27 t376.length co27] 28 (0, 0)) (bk BK381.out) hb); have n10_ := Aside0.mk (blk_below (g := gb390) (o := .cells #[.int .i64 t382, .int .i64 t383, .slice Ao34 t413.length co34, .slice Ao35 t414.length co35] 28 (0, 0)) (bk BK390.out) hb); have n11_ := Aside0.mk (blk_below (g := gb401) (o := .cells #[.int .i64 t391, .int .i64 t392, .slice Ao42 t393.length co42, .slice Ao43 t396.length co43] 28 (0, 0)) (bk BK401.out) hb); have n12_ := Aside0.mk (below_step (bl4 HB.out GE361.out GE381.out GE390.out GE401.out) hb); clear HO_382002; clear HO_382003; clear HO_391002; clear HO_391003; clear HO_402002; clear HO_402003; clear BK361; clear BK381; clear BK390; clear BK401; clear HB; have HO_382002 := n0_; have HO_382003 := n1_; have HO_391002 := n2_; have HO_391003 := n3_; have HO_402002 := n4_; have HO_402003 := n5_; have HO424 := n6_; have HO427 := n7_; have BK361 := n8_; have BK381 := n9_; have BK390 := n10_; have BK401 := n11_; have HB := n12_; clear n0_ n1_ n2_ n3_ n4_ n5_ n6_ n7_ n8_ n9_ n10_ n11_ n12_; (try clear hb); (try clear hb2); (try clear hk); (try clear hi); (try clear ho0); (try clear ho1); obtain ⟨Ao140, co140, eo140⟩ := Kd.R_slice HO424.out; subst eo140; obtain ⟨Ao141, co141, eo141⟩ := Kd.R_slice HO427.out; subst eo141) | ((with_reducible refine gate_callee (f := 31) rfl ?_); refine goesL_ (some 99) rfl rfl Try.func31 (by kernel_rfl) rfl #[.agg #[.int .i64 t420, .int .i64 t421, .slice Ao140 t422.length co140, .slice Ao141 t425.length co141], .string a1] rfl (by (try simp only [List.map_toArray, List.map_cons, List.map_nil]); first | done | rfl | (simp only [List.length_drop, List.length_take]; rfl)) ?_; (with_reducible refine (impl_GetEntry.calls kj75 t420 t421 _ _ t422 _ _ t425 a1 t428 t429 t430 t433 t436 t437 _ ?side1 ?side2 ?side3 ?side4 A121.out).mono ?_); (case side1 => exact kc (Kd.R_reads' HO424.out).2.2); (case side2 => exact (Kd.R_reads' HO424.out).2.1); (case side3 => exact kc (Kd.R_reads' HO427.out).2.2); (case side4 => exact (Kd.R_reads' HO427.out).2.1); rintro e w142 ⟨v431, v434, rfl, ho0, ho1, hb⟩; refine ⟨_, rfl, ?_⟩; have n0_ := Aside0.mk (Kd.R_mono (Kd.R_told (Kd.R_told (Kd.R_old (kr HO_382002.out) hb) (Kd.R_base ho0)) (Kd.R_base ho1)) (fun _ h_ => h_.1)); have n1_ := Aside0.mk (Kd.R_mono (Kd.R_told (Kd.R_told (Kd.R_old (kr HO_382003.out) hb) (Kd.R_base ho0)) (Kd.R_base ho1)) (fun _ h_ => h_.1)); have n2_ := Aside0.mk (Kd.R_mono (Kd.R_told (Kd.R_told (Kd.R_old (kr HO_391002.out) hb) (Kd.R_base ho0)) (Kd.R_base ho1)) (fun _ h_ => h_.1)); have n3_ := Aside0.mk (Kd.R_mono (Kd.R_told (Kd.R_told (Kd.R_old (kr HO_391003.out) hb) (Kd.R_base ho0)) (Kd.R_base ho1)) (fun _ h_ => h_.1)); have n4_ := Aside0.mk (Kd.R_mono (Kd.R_told (Kd.R_told (Kd.R_old (kr HO_402002.out) hb) (Kd.R_base ho0)) (Kd.R_base ho1)) (fun _ h_ => h_.1)); have n5_ := Aside0.mk (Kd.R_mono (Kd.R_told (Kd.R_told (Kd.R_old (kr HO_402003.out) hb) (Kd.R_base ho0)) (Kd.R_base ho1)) (fun _ h_ => h_.1)); have n6_ := Aside0.mk (Kd.R_mono (Kd.R_told (Kd.R_told (Kd.R_old (kr HO424.out) hb) (Kd.R_base ho0)) (Kd.R_base ho1)) (fun _ h_ => h_.1)); have n7_ := Aside0.mk (Kd.R_mono (Kd.R_told (Kd.R_told (Kd.R_old (kr HO427.out) hb) (Kd.R_base ho0)) (Kd.R_base ho1)) (fun _ h_ => h_.1)); have n8_ := Aside0.mk (Kd.R_lower (Kd.R_new' (Kd.R_new' (Kd.R_new' (Kd.R_new' (Kd.R_new' (Kd.R_new' (Kd.R_new' (Kd.R_new' ho0 (Kd.R_lt (kr HO_382002.out))) (Kd.R_lt (kr HO_382003.out))) (Kd.R_lt (kr HO_391002.out))) (Kd.R_lt (kr HO_391003.out))) (Kd.R_lt (kr HO_402002.out))) (Kd.R_lt (kr HO_402003.out))) (Kd.R_lt (kr HO424.out))) (Kd.R_lt (kr HO427.out))) (below_size (bl4 HB.out GE361.out GE381.out GE390.out GE401.out))); have n9_ := Aside0.mk (Kd.R_lower (Kd.R_new' (Kd.R_new' (Kd.R_new' (Kd.R_new' (Kd.R_new' (Kd.R_new' (Kd.R_new' (Kd.R_new' ho1 (Kd.R_lt (kr HO_382002.out))) (Kd.R_lt (kr HO_382003.out))) (Kd.R_lt (kr HO_391002.out))) (Kd.R_lt (kr HO_391003.out))) (Kd.R_lt (kr HO_402002.out))) (Kd.R_lt (kr HO_402003.out))) (Kd.R_lt (kr HO424.out))) (Kd.R_lt (kr HO427.out))) (below_size (bl4 HB.out GE361.out GE381.out GE390.out GE401.out))); have n10_ := Aside0.mk (blk_below (g := gb361) (o := .cells #[.int .i64 a0_0, .int .i64 a0_1, .slice A0_2 l0_2.length c0_2, .slice A0_3 l0_3.length c0_3] 24 (0, 0)) (bk BK361.out) hb); have n11_ := Aside0.mk (blk_below (g := gb381) (o := .cells #[.int .i64 t371, .int .i64 t372, .slice Ao26 t373.length co26, .slice Ao27 t376.length co27] 28 (0, 0)) (bk BK381.out) hb); have n12_ := Aside0.mk (blk_below (g := gb390) (o := .cells #[.int .i64 t382, .int .i64 t383, .slice Ao34 t413.length co34, .slice Ao35 t414.length co35] 28 (0, 0)) (bk BK390.out) hb); have n13_ := Aside0.mk (blk_below (g := gb401) (o := .cells #[.int .i64 t391, .int .i64 t392, .slice Ao42 t393.length co42, .slice Ao43 t396.length co43] 28 (0, 0)) (bk BK401.out) hb); have n14_ := Aside0.mk (below_step (bl4 HB.out GE361.out GE381.out GE390.out GE401.out) hb); clear HO_382002; clear HO_382003; clear HO_391002; clear HO_391003; clear HO_402002; clear HO_402003; clear HO424; clear HO427; clear BK361; clear BK381; clear BK390; clear BK401; clear HB; have HO_382002 := n0_; have HO_382003 := n1_; have HO_391002 := n2_; have HO_391003 := n3_; have HO_402002 := n4_; have HO_402003 := n5_; have HO424 := n6_; have HO427 := n7_; have HO432 := n8_; have HO435 := n9_; have BK361 := n10_; have BK381 := n11_; have BK390 := n12_; have BK401 := n13_; have HB := n14_; clear n0_ n1_ n2_ n3_ n4_ n5_ n6_ n7_ n8_ n9_ n10_ n11_ n12_ n13_ n14_; (try clear hb); (try clear hb2); (try clear hk); (try clear hi); (try clear ho0); (try clear ho1)) | ((with_reducible refine gate_dst (N := 16) rfl ?_); refine box_event ?hg (N := 16) ?hd (cs := #[.int .i64 0, .int .i64 0, .slice none 0 0, .slice none 0 0]) (t := 28) ?hr ?_; (case hd => rfl); (case hg => rfl); (case hr => first | (go_simp; done) | (go_simp; rfl)); intro gb438 hg w143 hbox hb; have n0_ := Aside0.mk (Kd.R_below (kr HO_382002.out) hb); have n1_ := Aside0.mk (Kd.R_below (kr HO_382003.out) hb); have n2_ := Aside0.mk (Kd.R_below (kr HO_391002.out) hb); have n3_ := Aside0.mk (Kd.R_below (kr HO_391003.out) hb); have n4_ := Aside0.mk (Kd.R_below (kr HO_402002.out) hb); have n5_ := Aside0.mk (Kd.R_below (kr HO_402003.out) hb); have n6_ := Aside0.mk (Kd.R_below (kr HO424.out) hb); have n7_ := Aside0.mk (Kd.R_below (kr HO427.out) hb); have n8_ := Aside0.mk (Kd.R_below (kr HO432.out) hb); have n9_ := Aside0.mk (Kd.R_below (kr HO435.out) hb); have n10_ := Aside0.mk (blk_below (g := gb361) (o := .cells #[.int .i64 a0_0, .int .i64 a0_1, .slice A0_2 l0_2.length c0_2, .slice A0_3 l0_3.length c0_3] 24 (0, 0)) (bk BK361.out) hb); have n11_ := Aside0.mk (blk_below (g := gb381) (o := .cells #[.int .i64 t371, .int .i64 t372, .slice Ao26 t373.length co26, .slice Ao27 t376.length co27] 28 (0, 0)) (bk BK381.out) hb); have n12_ := Aside0.mk (blk_below (g := gb390) (o := .cells #[.int .i64 t382, .int .i64 t383, .slice Ao34 t413.length co34, .slice Ao35 t414.length co35] 28 (0, 0)) (bk BK390.out) hb); have n13_ := Aside0.mk (blk_below (g := gb401) (o := .cells #[.int .i64 t391, .int .i64 t392, .slice Ao42 t393.length co42, .slice Ao43 t396.length co43] 28 (0, 0)) (bk BK401.out) hb); have n14_ := Aside0.mk (below_step (bl4 HB.out GE361.out GE381.out GE390.out GE401.out) hb); have n15_ := Aside0.mk (hbox); have n16_ := Aside0.mk ((by rw [hg]; exact (below_size (bl4 HB.out GE361.out GE381.out GE390.out GE401.out)) : w.heap.size ≤ gb438)); have n17_ := Aside0.mk ((by rw [hg]; exact (below_size (bl4 HB.out GE361.out GE381.out GE390.out GE401.out)) : w.heap.size ≤ gb438)); have n18_ := Aside0.mk ((by rw [hg]; exact Nat.ne_of_lt (blk_lt (g := gb361) (o := .cells #[.int .i64 a0_0, .int .i64 a0_1, .slice A0_2 l0_2.length c0_2, .slice A0_3 l0_3.length c0_3] 24 (0, 0)) (bk BK361.out)) : gb361 ≠ gb438)); have n19_ := Aside0.mk ((by rw [hg]; exact Nat.ne_of_gt (blk_lt (g := gb361) (o := .cells #[.int .i64 a0_0, .int .i64 a0_1, .slice A0_2 l0_2.length c0_2, .slice A0_3 l0_3.length c0_3] 24 (0, 0)) (bk BK361.out)) : gb438 ≠ gb361)); have n20_ := Aside0.mk ((by rw [hg]; exact Nat.ne_of_lt (blk_lt (g := gb381) (o := .cells #[.int .i64 t371, .int .i64 t372, .slice Ao26 t373.length co26, .slice Ao27 t376.length co27] 28 (0, 0)) (bk BK381.out)) : gb381 ≠ gb438)); have n21_ := Aside0.mk ((by rw [hg]; exact Nat.ne_of_gt (blk_lt (g := gb381) (o := .cells #[.int .i64 t371, .int .i64 t372, .slice Ao26 t373.length co26, .slice Ao27 t376.length co27] 28 (0, 0)) (bk BK381.out)) : gb438 ≠ gb381)); have n22_ := Aside0.mk ((by rw [hg]; exact Nat.ne_of_lt (blk_lt (g := gb390) (o := .cells #[.int .i64 t382, .int .i64 t383, .slice Ao34 t413.length co34, .slice Ao35 t414.length co35] 28 (0, 0)) (bk BK390.out)) : gb390 ≠ gb438)); have n23_ := Aside0.mk ((by rw [hg]; exact Nat.ne_of_gt (blk_lt (g := gb390) (o := .cells #[.int .i64 t382, .int .i64 t383, .slice Ao34 t413.length co34, .slice Ao35 t414.length co35] 28 (0, 0)) (bk BK390.out)) : gb438 ≠ gb390)); have n24_ := Aside0.mk ((by rw [hg]; exact Nat.ne_of_lt (blk_lt (g := gb401) (o := .cells #[.int .i64 t391, .int .i64 t392, .slice Ao42 t393.length co42, .slice Ao43 t396.length co43] 28 (0, 0)) (bk BK401.out)) : gb401 ≠ gb438)); have n25_ := Aside0.mk ((by rw [hg]; exact Nat.ne_of_gt (blk_lt (g := gb401) (o := .cells #[.int .i64 t391, .int .i64 t392, .slice Ao42 t393.length co42, .slice Ao43 t396.length co43] 28 (0, 0)) (bk BK401.out)) : gb438 ≠ gb401)); clear HO_382002; clear HO_382003; clear HO_391002; clear HO_391003; clear HO_402002; clear HO_402003; clear HO424; clear HO427; clear HO432; clear HO435; clear BK361; clear BK381; clear BK390; clear BK401; clear HB; have HO_382002 := n0_; have HO_382003 := n1_; have HO_391002 := n2_; have HO_391003 := n3_; have HO_402002 := n4_; have HO_402003 := n5_; have HO424 := n6_; have HO427 := n7_; have HO432 := n8_; have HO435 := n9_; have BK361 := n10_; have BK381 := n11_; have BK390 := n12_; have BK401 := n13_; have HB := n14_; have BK438 := n15_; have GW438 := n16_; have GE438 := n17_; have NB361_438 := n18_; have NB438_361 := n19_; have NB381_438 := n20_; have NB438_381 := n21_; have NB390_438 := n22_; have NB438_390 := n23_; have NB401_438 := n24_; have NB438_401 := n25_; clear n0_ n1_ n2_ n3_ n4_ n5_ n6_ n7_ n8_ n9_ n10_ n11_ n12_ n13_ n14_ n15_ n16_ n17_ n18_ n19_ n20_ n21_ n22_ n23_ n24_ n25_; clear hb hbox hg; have hnb144 := NB438_361.out; have hnc144 := NB361_438.out; have hnb145 := NB438_381.out; have hnc145 := NB381_438.out; have hnb146 := NB438_390.out; have hnc146 := NB390_438.out; have hnb147 := NB438_401.out; have hnc147 := NB401_438.out; have hcz148_0 : w143.cell? ⟨gb438, 0, none⟩ = some (.int .i64 0) := (blk_cell BK438.out 0).trans rfl; have hcz148_1 : w143.cell? ⟨gb438, 1, none⟩ = some (.int .i64 0) := (blk_cell BK438.out 1).trans rfl; have hcz148_2 : w143.cell? ⟨gb438, 2, none⟩ = some (.slice none 0 0) := (blk_cell BK438.out 2).trans rfl; have hcz148_3 : w143.cell? ⟨gb438, 3, none⟩ = some (.slice none 0 0) := (blk_cell BK438.out 3).trans rfl; have hfz148_0 := blk_frozen BK438.out 0; have hfz148_1 := blk_frozen BK438.out 1; have hfz148_2 := blk_frozen BK438.out 2; have hfz148_3 := blk_frozen BK438.out 3; obtain ⟨Ao149, co149, eo149⟩ := Kd.R_slice HO432.out; subst eo149; obtain ⟨Ao150, co150, eo150⟩ := Kd.R_slice HO435.out; subst eo150; have hnb151 := NB381_390.out; have hnc151 := NB390_381.out; have hcz152_0 : w143.cell? ⟨gb381, 0, none⟩ = some (.int .i64 t371) := (blk_cell BK381.out 0).trans rfl; have hcz152_1 : w143.cell? ⟨gb381, 1, none⟩ = some (.int .i64 t372) := (blk_cell BK381.out 1).trans rfl; have hcz152_2 : w143.cell? ⟨gb381, 2, none⟩ = some (.slice Ao26 t373.length co26) := (blk_cell BK381.out 2).trans rfl; have hcz152_3 : w143.cell? ⟨gb381, 3, none⟩ = some (.slice Ao27 t376.length co27) := (blk_cell BK381.out 3).trans rfl; have hfz152_0 := blk_frozen BK381.out 0; have hfz152_1 := blk_frozen BK381.out 1; have hfz152_2 := blk_frozen BK381.out 2; have hfz152_3 := blk_frozen BK381.out 3) | ((with_reducible refine gate_callee (f := 13) rfl ?_); refine goesL_ (some 105) rfl rfl Try.func13 (by kernel_rfl) rfl #[.agg #[.int .i64 t428, .int .i64 t429, .slice Ao149 t430.length co149, .slice Ao150 t433.length co150], .agg #[.int .i64 t371, .int .i64 t372, .slice Ao26 t373.length co26, .slice Ao27 t376.length co27]] rfl (by (try simp only [List.map_toArray, List.map_cons, List.map_nil]); first | done | rfl | (simp only [List.length_drop, List.length_take]; rfl)) ?_; (with_reducible refine (laws_eqSegmented.calls kj75 t428 t429 _ _ t430 _ _ t433 t371 t372 _ _ t373 _ _ t376 true _ ?side1 ?side2 ?side3 ?side4 ?side5 ?side6 ?side7 ?side8 A122.out).mono ?_); (case side1 => refine (Kd.R_reads' (e := 45) (base := w.heap.size) (ok := fun k_ => ((((((((some k_ ≠ (.slice Ao150 t433.length co150 : Value).ownBlock ∧ some k_ ≠ (.slice Ao26 t373.length co26 : Value).ownBlock) ∧ some k_ ≠ (.slice Ao27 t376.length co27 : Value).ownBlock) ∧ some k_ ≠ (.slice Ao34 t413.length co34 : Value).ownBlock) ∧ some k_ ≠ (.slice Ao35 t414.length co35 : Value).ownBlock) ∧ some k_ ≠ (.slice Ao42 t393.length co42 : Value).ownBlock) ∧ some k_ ≠ (.slice Ao43 t396.length co43 : Value).ownBlock) ∧ some k_ ≠ (.slice Ao140 t422.length co140 : Value).ownBlock) ∧ some k_ ≠ (.slice Ao141 t425.length co141 : Value).ownBlock)) (n := t430.length) (c := co149) ?_).2.2; exact (by (with_reducible repeat (first | apply Kd.R_alloc | apply Kd.R_drewN | apply Kd.R_drew)); exact (Kd.R_mono (Kd.R_far (p := ⟨gb438, 3, none⟩) (Kd.R_far (p := ⟨gb438, 2, none⟩) (Kd.R_far (p := ⟨gb438, 1, none⟩) (Kd.R_far (p := ⟨gb438, 0, none⟩) (Kd.R_types HO432.out BK438.out (by decide)) (fun _ hk => hk.2) (.int .i64 t428)) (fun _ hk => hk.2) (.int .i64 t429)) (fun _ hk => hk.2) (.slice Ao149 t430.length co149)) (fun _ hk => hk.2) (.slice Ao150 t433.length co150)) (fun _ h_ => h_.1)))); (case side2 => exact (Kd.R_reads' HO432.out).2.1); (case side3 => refine (Kd.R_reads' (e := 45) (base := w.heap.size) (ok := fun k_ => ((((((((some k_ ≠ (.slice Ao149 t430.length co149 : Value).ownBlock ∧ some k_ ≠ (.slice Ao26 t373.length co26 : Value).ownBlock) ∧ some k_ ≠ (.slice Ao27 t376.length co27 : Value).ownBlock) ∧ some k_ ≠ (.slice Ao34 t413.length co34 : Value).ownBlock) ∧ some k_ ≠ (.slice Ao35 t414.length co35 : Value).ownBlock) ∧ some k_ ≠ (.slice Ao42 t393.length co42 : Value).ownBlock) ∧ some k_ ≠ (.slice Ao43 t396.length co43 : Value).ownBlock) ∧ some k_ ≠ (.slice Ao140 t422.length co140 : Value).ownBlock) ∧ some k_ ≠ (.slice Ao141 t425.length co141 : Value).ownBlock)) (n := t433.length) (c := co150) ?_).2.2; exact (by (with_reducible repeat (first | apply Kd.R_alloc | apply Kd.R_drewN | apply Kd.R_drew)); exact (Kd.R_mono (Kd.R_far (p := ⟨gb438, 3, none⟩) (Kd.R_far (p := ⟨gb438, 2, none⟩) (Kd.R_far (p := ⟨gb438, 1, none⟩) (Kd.R_far (p := ⟨gb438, 0, none⟩) (Kd.R_types HO435.out BK438.out (by decide)) (fun _ hk => hk.2) (.int .i64 t428)) (fun _ hk => hk.2) (.int .i64 t429)) (fun _ hk => hk.2) (.slice Ao149 t430.length co149)) (fun _ hk => hk.2) (.slice Ao150 t433.length co150)) (fun _ h_ => h_.1)))); (case side4 => exact (Kd.R_reads' HO435.out).2.1); (case side5 => refine (Kd.R_reads' (e := 45) (base := w.heap.size) (ok := fun k_ => (((((some k_ ≠ (.slice Ao27 t376.length co27 : Value).ownBlock ∧ (some k_ ≠ (.slice Ao34 t413.length co34 : Value).ownBlock ∧ (some k_ ≠ (.slice Ao35 t414.length co35 : Value).ownBlock ∧ (some k_ ≠ (.slice Ao42 t393.length co42 : Value).ownBlock ∧ some k_ ≠ (.slice Ao43 t396.length co43 : Value).ownBlock)))) ∧ some k_ ≠ (.slice Ao140 t422.length co140 : Value).ownBlock) ∧ some k_ ≠ (.slice Ao141 t425.length co141 : Value).ownBlock) ∧ some k_ ≠ (.slice Ao149 t430.length co149 : Value).ownBlock) ∧ some k_ ≠ (.slice Ao150 t433.length co150 : Value).ownBlock)) (n := t373.length) (c := co26) ?_).2.2; exact (by (with_reducible repeat (first | apply Kd.R_alloc | apply Kd.R_drewN | apply Kd.R_drew)); exact (Kd.R_mono (Kd.R_far (p := ⟨gb438, 3, none⟩) (Kd.R_far (p := ⟨gb438, 2, none⟩) (Kd.R_far (p := ⟨gb438, 1, none⟩) (Kd.R_far (p := ⟨gb438, 0, none⟩) (Kd.R_types HO_382002.out BK438.out (by decide)) (fun _ hk => hk.2) (.int .i64 t428)) (fun _ hk => hk.2) (.int .i64 t429)) (fun _ hk => hk.2) (.slice Ao149 t430.length co149)) (fun _ hk => hk.2) (.slice Ao150 t433.length co150)) (fun _ h_ => h_.1)))); (case side6 => exact (Kd.R_reads' HO_382002.out).2.1); (case side7 => refine (Kd.R_reads' (e := 45) (base := w.heap.size) (ok := fun k_ => (((((some k_ ≠ (.slice Ao26 t373.length co26 : Value).ownBlock ∧ (some k_ ≠ (.slice Ao34 t413.length co34 : Value).ownBlock ∧ (some k_ ≠ (.slice Ao35 t414.length co35 : Value).ownBlock ∧ (some k_ ≠ (.slice Ao42 t393.length co42 : Value).ownBlock ∧ some k_ ≠ (.slice Ao43 t396.length co43 : Value).ownBlock)))) ∧ some k_ ≠ (.slice Ao140 t422.length co140 : Value).ownBlock) ∧ some k_ ≠ (.slice Ao141 t425.length co141 : Value).ownBlock) ∧ some k_ ≠ (.slice Ao149 t430.length co149 : Value).ownBlock) ∧ some k_ ≠ (.slice Ao150 t433.length co150 : Value).ownBlock)) (n := t376.length) (c := co27) ?_).2.2; exact (by (with_reducible repeat (first | apply Kd.R_alloc | apply Kd.R_drewN | apply Kd.R_drew)); exact (Kd.R_mono (Kd.R_far (p := ⟨gb438, 3, none⟩) (Kd.R_far (p := ⟨gb438, 2, none⟩) (Kd.R_far (p := ⟨gb438, 1, none⟩) (Kd.R_far (p := ⟨gb438, 0, none⟩) (Kd.R_types HO_382003.out BK438.out (by decide)) (fun _ hk => hk.2) (.int .i64 t428)) (fun _ hk => hk.2) (.int .i64 t429)) (fun _ hk => hk.2) (.slice Ao149 t430.length co149)) (fun _ hk => hk.2) (.slice Ao150 t433.length co150)) (fun _ h_ => h_.1)))); (case side8 => exact (Kd.R_reads' HO_382003.out).2.1); rintro e w153 ⟨rfl, hb⟩; refine ⟨_, rfl, ?_⟩; have n0_ := Aside0.mk (Kd.R_below (by (with_reducible repeat (first | apply Kd.R_alloc | apply Kd.R_drewN | apply Kd.R_drew)); exact (Kd.R_mono (Kd.R_far (p := ⟨gb438, 3, none⟩) (Kd.R_far (p := ⟨gb438, 2, none⟩) (Kd.R_far (p := ⟨gb438, 1, none⟩) (Kd.R_far (p := ⟨gb438, 0, none⟩) (Kd.R_types HO_382002.out BK438.out (by decide)) (fun _ hk => hk.2) (.int .i64 t428)) (fun _ hk => hk.2) (.int .i64 t429)) (fun _ hk => hk.2) (.slice Ao149 t430.length co149)) (fun _ hk => hk.2) (.slice Ao150 t433.length co150)) (fun _ h_ => h_.1))) hb); have n1_ := Aside0.mk (Kd.R_below (by (with_reducible repeat (first | apply Kd.R_alloc | apply Kd.R_drewN | apply Kd.R_drew)); exact (Kd.R_mono (Kd.R_far (p := ⟨gb438, 3, none⟩) (Kd.R_far (p := ⟨gb438, 2, none⟩) (Kd.R_far (p := ⟨gb438, 1, none⟩) (Kd.R_far (p := ⟨gb438, 0, none⟩) (Kd.R_types HO_382003.out BK438.out (by decide)) (fun _ hk => hk.2) (.int .i64 t428)) (fun _ hk => hk.2) (.int .i64 t429)) (fun _ hk => hk.2) (.slice Ao149 t430.length co149)) (fun _ hk => hk.2) (.slice Ao150 t433.length co150)) (fun _ h_ => h_.1))) hb); have n2_ := Aside0.mk (Kd.R_below (by (with_reducible repeat (first | apply Kd.R_alloc | apply Kd.R_drewN | apply Kd.R_drew)); exact (Kd.R_mono (Kd.R_far (p := ⟨gb438, 3, none⟩) (Kd.R_far (p := ⟨gb438, 2, none⟩) (Kd.R_far (p := ⟨gb438, 1, none⟩) (Kd.R_far (p := ⟨gb438, 0, none⟩) (Kd.R_types HO_391002.out BK438.out (by decide)) (fun _ hk => hk.2) (.int .i64 t428)) (fun _ hk => hk.2) (.int .i64 t429)) (fun _ hk => hk.2) (.slice Ao149 t430.length co149)) (fun _ hk => hk.2) (.slice Ao150 t433.length co150)) (fun _ h_ => h_.1))) hb); have n3_ := Aside0.mk (Kd.R_below (by (with_reducible repeat (first | apply Kd.R_alloc | apply Kd.R_drewN | apply Kd.R_drew)); exact (Kd.R_mono (Kd.R_far (p := ⟨gb438, 3, none⟩) (Kd.R_far (p := ⟨gb438, 2, none⟩) (Kd.R_far (p := ⟨gb438, 1, none⟩) (Kd.R_far (p := ⟨gb438, 0, none⟩) (Kd.R_types HO_391003.out BK438.out (by decide)) (fun _ hk => hk.2) (.int .i64 t428)) (fun _ hk => hk.2) (.int .i64 t429)) (fun _ hk => hk.2) (.slice Ao149 t430.length co149)) (fun _ hk => hk.2) (.slice Ao150 t433.length co150)) (fun _ h_ => h_.1))) hb); have n4_ := Aside0.mk (Kd.R_below (by (with_reducible repeat (first | apply Kd.R_alloc | apply Kd.R_drewN | apply Kd.R_drew)); exact (Kd.R_mono (Kd.R_far (p := ⟨gb438, 3, none⟩) (Kd.R_far (p := ⟨gb438, 2, none⟩) (Kd.R_far (p := ⟨gb438, 1, none⟩) (Kd.R_far (p := ⟨gb438, 0, none⟩) (Kd.R_types HO_402002.out BK438.out (by decide)) (fun _ hk => hk.2) (.int .i64 t428)) (fun _ hk => hk.2) (.int .i64 t429)) (fun _ hk => hk.2) (.slice Ao149 t430.length co149)) (fun _ hk => hk.2) (.slice Ao150 t433.length co150)) (fun _ h_ => h_.1))) hb); have n5_ := Aside0.mk (Kd.R_below (by (with_reducible repeat (first | apply Kd.R_alloc | apply Kd.R_drewN | apply Kd.R_drew)); exact (Kd.R_mono (Kd.R_far (p := ⟨gb438, 3, none⟩) (Kd.R_far (p := ⟨gb438, 2, none⟩) (Kd.R_far (p := ⟨gb438, 1, none⟩) (Kd.R_far (p := ⟨gb438, 0, none⟩) (Kd.R_types HO_402003.out BK438.out (by decide)) (fun _ hk => hk.2) (.int .i64 t428)) (fun _ hk => hk.2) (.int .i64 t429)) (fun _ hk => hk.2) (.slice Ao149 t430.length co149)) (fun _ hk => hk.2) (.slice Ao150 t433.length co150)) (fun _ h_ => h_.1))) hb); have n6_ := Aside0.mk (Kd.R_below (by (with_reducible repeat (first | apply Kd.R_alloc | apply Kd.R_drewN | apply Kd.R_drew)); exact (Kd.R_mono (Kd.R_far (p := ⟨gb438, 3, none⟩) (Kd.R_far (p := ⟨gb438, 2, none⟩) (Kd.R_far (p := ⟨gb438, 1, none⟩) (Kd.R_far (p := ⟨gb438, 0, none⟩) (Kd.R_types HO424.out BK438.out (by decide)) (fun _ hk => hk.2) (.int .i64 t428)) (fun _ hk => hk.2) (.int .i64 t429)) (fun _ hk => hk.2) (.slice Ao149 t430.length co149)) (fun _ hk => hk.2) (.slice Ao150 t433.length co150)) (fun _ h_ => h_.1))) hb); have n7_ := Aside0.mk (Kd.R_below (by (with_reducible repeat (first | apply Kd.R_alloc | apply Kd.R_drewN | apply Kd.R_drew)); exact (Kd.R_mono (Kd.R_far (p := ⟨gb438, 3, none⟩) (Kd.R_far (p := ⟨gb438, 2, none⟩) (Kd.R_far (p := ⟨gb438, 1, none⟩) (Kd.R_far (p := ⟨gb438, 0, none⟩) (Kd.R_types HO427.out BK438.out (by decide)) (fun _ hk => hk.2) (.int .i64 t428)) (fun _ hk => hk.2) (.int .i64 t429)) (fun _ hk => hk.2) (.slice Ao149 t430.length co149)) (fun _ hk => hk.2) (.slice Ao150 t433.length co150)) (fun _ h_ => h_.1))) hb); have n8_ := Aside0.mk (Kd.R_below (by (with_reducible repeat (first | apply Kd.R_alloc | apply Kd.R_drewN | apply Kd.R_drew)); exact (Kd.R_mono (Kd.R_far (p := ⟨gb438, 3, none⟩) (Kd.R_far (p := ⟨gb438, 2, none⟩) (Kd.R_far (p := ⟨gb438, 1, none⟩) (Kd.R_far (p := ⟨gb438, 0, none⟩) (Kd.R_types HO432.out BK438.out (by decide)) (fun _ hk => hk.2) (.int .i64 t428)) (fun _ hk => hk.2) (.int .i64 t429)) (fun _ hk => hk.2) (.slice Ao149 t430.length co149)) (fun _ hk => hk.2) (.slice Ao150 t433.length co150)) (fun _ h_ => h_.1))) hb); have n9_ := Aside0.mk (Kd.R_below (by (with_reducible repeat (first | apply Kd.R_alloc | apply Kd.R_drewN | apply Kd.R_drew)); exact (Kd.R_mono (Kd.R_far (p := ⟨gb438, 3, none⟩) (Kd.R_far (p := ⟨gb438, 2, none⟩) (Kd.R_far (p := ⟨gb438, 1, none⟩) (Kd.R_far (p := ⟨gb438, 0, none⟩) (Kd.R_types HO435.out BK438.out (by decide)) (fun _ hk => hk.2) (.int .i64 t428)) (fun _ hk => hk.2) (.int .i64 t429)) (fun _ hk => hk.2) (.slice Ao149 t430.length co149)) (fun _ hk => hk.2) (.slice Ao150 t433.length co150)) (fun _ h_ => h_.1))) hb); have n10_ := Aside0.mk (blk_below (g := gb361) (o := .cells #[.int .i64 a0_0, .int .i64 a0_1, .slice A0_2 l0_2.length c0_2, .slice A0_3 l0_3.length c0_3] 24 (0, 0)) (by (with_reducible repeat (first | refine blk_drewN ?_ _ | refine blk_drew ?_ | refine blk_alloc ?_ _)); refine blk_far ?_ NB361_438.out _; (with_reducible repeat (first | refine blk_drewN ?_ _ | refine blk_drew ?_ | refine blk_alloc ?_ _)); refine blk_far ?_ NB361_438.out _; (with_reducible repeat (first | refine blk_drewN ?_ _ | refine blk_drew ?_ | refine blk_alloc ?_ _)); refine blk_far ?_ NB361_438.out _; (with_reducible repeat (first | refine blk_drewN ?_ _ | refine blk_drew ?_ | refine blk_alloc ?_ _)); refine blk_far ?_ NB361_438.out _; exact bk BK361.out) hb); have n11_ := Aside0.mk (blk_below (g := gb381) (o := .cells #[.int .i64 t371, .int .i64 t372, .slice Ao26 t373.length co26, .slice Ao27 t376.length co27] 28 (0, 0)) (by (with_reducible repeat (first | refine blk_drewN ?_ _ | refine blk_drew ?_ | refine blk_alloc ?_ _)); refine blk_far ?_ NB381_438.out _; (with_reducible repeat (first | refine blk_drewN ?_ _ | refine blk_drew ?_ | refine blk_alloc ?_ _)); refine blk_far ?_ NB381_438.out _; (with_reducible repeat (first | refine blk_drewN ?_ _ | refine blk_drew ?_ | refine blk_alloc ?_ _)); refine blk_far ?_ NB381_438.out _; (with_reducible repeat (first | refine blk_drewN ?_ _ | refine blk_drew ?_ | refine blk_alloc ?_ _)); refine blk_far ?_ NB381_438.out _; exact bk BK381.out) hb); have n12_ := Aside0.mk (blk_below (g := gb390) (o := .cells #[.int .i64 t382, .int .i64 t383, .slice Ao34 t413.length co34, .slice Ao35 t414.length co35] 28 (0, 0)) (by (with_reducible repeat (first | refine blk_drewN ?_ _ | refine blk_drew ?_ | refine blk_alloc ?_ _)); refine blk_far ?_ NB390_438.out _; (with_reducible repeat (first | refine blk_drewN ?_ _ | refine blk_drew ?_ | refine blk_alloc ?_ _)); refine blk_far ?_ NB390_438.out _; (with_reducible repeat (first | refine blk_drewN ?_ _ | refine blk_drew ?_ | refine blk_alloc ?_ _)); refine blk_far ?_ NB390_438.out _; (with_reducible repeat (first | refine blk_drewN ?_ _ | refine blk_drew ?_ | refine blk_alloc ?_ _)); refine blk_far ?_ NB390_438.out _; exact bk BK390.out) hb); have n13_ := Aside0.mk (blk_below (g := gb401) (o := .cells #[.int .i64 t391, .int .i64 t392, .slice Ao42 t393.length co42, .slice Ao43 t396.length co43] 28 (0, 0)) (by (with_reducible repeat (first | refine blk_drewN ?_ _ | refine blk_drew ?_ | refine blk_alloc ?_ _)); refine blk_far ?_ NB401_438.out _; (with_reducible repeat (first | refine blk_drewN ?_ _ | refine blk_drew ?_ | refine blk_alloc ?_ _)); refine blk_far ?_ NB401_438.out _; (with_reducible repeat (first | refine blk_drewN ?_ _ | refine blk_drew ?_ | refine blk_alloc ?_ _)); refine blk_far ?_ NB401_438.out _; (with_reducible repeat (first | refine blk_drewN ?_ _ | refine blk_drew ?_ | refine blk_alloc ?_ _)); refine blk_far ?_ NB401_438.out _; exact bk BK401.out) hb); have n14_ := Aside0.mk (blk_below (g := gb438) (o := .cells #[.int .i64 t428, .int .i64 t429, .slice Ao149 t430.length co149, .slice Ao150 t433.length co150] 28 (0, 0)) (by (with_reducible repeat (first | refine blk_drewN ?_ _ | refine blk_drew ?_ | refine blk_alloc ?_ _)); refine blk_put (cs := #[.int .i64 t428, .int .i64 t429, .slice Ao149 t430.length co149, .slice none 0 0]) ?_ 3 _ rfl; (with_reducible repeat (first | refine blk_drewN ?_ _ | refine blk_drew ?_ | refine blk_alloc ?_ _)); refine blk_put (cs := #[.int .i64 t428, .int .i64 t429, .slice none 0 0, .slice none 0 0]) ?_ 2 _ rfl; (with_reducible repeat (first | refine blk_drewN ?_ _ | refine blk_drew ?_ | refine blk_alloc ?_ _)); refine blk_put (cs := #[.int .i64 t428, .int .i64 0, .slice none 0 0, .slice none 0 0]) ?_ 1 _ rfl; (with_reducible repeat (first | refine blk_drewN ?_ _ | refine blk_drew ?_ | refine blk_alloc ?_ _)); refine blk_put (cs := #[.int .i64 0, .int .i64 0, .slice none 0 0, .slice none 0 0]) ?_ 0 _ rfl; exact bk BK438.out) hb); have n15_ := Aside0.mk (below_step (bl5 HB.out GE361.out GE381.out GE390.out GE401.out GE438.out) hb); clear HO_382002; clear HO_382003; clear HO_391002; clear HO_391003; clear HO_402002; clear HO_402003; clear HO424; clear HO427; clear HO432; clear HO435; clear BK361; clear BK381; clear BK390; clear BK401; clear BK438; clear HB; have HO_382002 := n0_; have HO_382003 := n1_; have HO_391002 := n2_; have HO_391003 := n3_; have HO_402002 := n4_; have HO_402003 := n5_; have HO424 := n6_; have HO427 := n7_; have HO432 := n8_; have HO435 := n9_; have BK361 := n10_; have BK381 := n11_; have BK390 := n12_; have BK401 := n13_; have BK438 := n14_; have HB := n15_; clear n0_ n1_ n2_ n3_ n4_ n5_ n6_ n7_ n8_ n9_ n10_ n11_ n12_ n13_ n14_ n15_; (try clear hb); (try clear hb2); (try clear hk); (try clear hi); have hcz154_0 : w153.cell? ⟨gb401, 0, none⟩ = some (.int .i64 t391) := (blk_cell BK401.out 0).trans rfl; have hcz154_1 : w153.cell? ⟨gb401, 1, none⟩ = some (.int .i64 t392) := (blk_cell BK401.out 1).trans rfl; have hcz154_2 : w153.cell? ⟨gb401, 2, none⟩ = some (.slice Ao42 t393.length co42) := (blk_cell BK401.out 2).trans rfl; have hcz154_3 : w153.cell? ⟨gb401, 3, none⟩ = some (.slice Ao43 t396.length co43) := (blk_cell BK401.out 3).trans rfl; have hfz154_0 := blk_frozen BK401.out 0; have hfz154_1 := blk_frozen BK401.out 1; have hfz154_2 := blk_frozen BK401.out 2; have hfz154_3 := blk_frozen BK401.out 3) | ((with_reducible refine gate_callee (f := 15) rfl ?_); refine goesL_ (some 119) rfl rfl Try.func15 (by kernel_rfl) rfl #[.agg #[.int .i64 t391, .int .i64 t392, .slice Ao42 t417.length co42, .slice Ao43 t418.length co43], .int .i64 1] rfl (by (try simp only [List.map_toArray, List.map_cons, List.map_nil]); first | done | (rw [show t417.length = t393.length from (Kd.R_reads' HO_402002.out).1.symm, show t418.length = t396.length from (Kd.R_reads' HO_402003.out).1.symm] <;> rfl) | rfl | (simp only [List.length_drop, List.length_take]; rfl)) ?_; (with_reducible refine (laws_heldSegmented.calls kj75 t391 t392 _ _ t417 _ _ t418 1 t440 _ ?side1 ?side2 ?side3 ?side4 A126.out).mono ?_); (case side1 => exact kc (Kd.R_reads' HO_402002.out).2.2); (case side2 => rw [show t417.length = t393.length from (Kd.R_reads' HO_402002.out).1.symm]; exact (Kd.R_reads' HO_402002.out).2.1); (case side3 => exact kc (Kd.R_reads' HO_402003.out).2.2); (case side4 => rw [show t418.length = t396.length from (Kd.R_reads' HO_402003.out).1.symm]; exact (Kd.R_reads' HO_402003.out).2.1); rintro e w155 ⟨rfl, hb⟩; refine ⟨_, rfl, ?_⟩; have n0_ := Aside0.mk (Kd.R_below (kr HO_382002.out) hb); have n1_ := Aside0.mk (Kd.R_below (kr HO_382003.out) hb); have n2_ := Aside0.mk (Kd.R_below (kr HO_391002.out) hb); have n3_ := Aside0.mk (Kd.R_below (kr HO_391003.out) hb); have n4_ := Aside0.mk (Kd.R_below (kr HO_402002.out) hb); have n5_ := Aside0.mk (Kd.R_below (kr HO_402003.out) hb); have n6_ := Aside0.mk (Kd.R_below (kr HO424.out) hb); have n7_ := Aside0.mk (Kd.R_below (kr HO427.out) hb); have n8_ := Aside0.mk (Kd.R_below (kr HO432.out) hb); have n9_ := Aside0.mk (Kd.R_below (kr HO435.out) hb); have n10_ := Aside0.mk (blk_below (g := gb361) (o := .cells #[.int .i64 a0_0, .int .i64 a0_1, .slice A0_2 l0_2.length c0_2, .slice A0_3 l0_3.length c0_3] 24 (0, 0)) (bk BK361.out) hb); have n11_ := Aside0.mk (blk_below (g := gb381) (o := .cells #[.int .i64 t371, .int .i64 t372, .slice Ao26 t373.length co26, .slice Ao27 t376.length co27] 28 (0, 0)) (bk BK381.out) hb); have n12_ := Aside0.mk (blk_below (g := gb390) (o := .cells #[.int .i64 t382, .int .i64 t383, .slice Ao34 t413.length co34, .slice Ao35 t414.length co35] 28 (0, 0)) (bk BK390.out) hb); have n13_ := Aside0.mk (blk_below (g := gb401) (o := .cells #[.int .i64 t391, .int .i64 t392, .slice Ao42 t393.length co42, .slice Ao43 t396.length co43] 28 (0, 0)) (bk BK401.out) hb); have n14_ := Aside0.mk (blk_below (g := gb438) (o := .cells #[.int .i64 t428, .int .i64 t429, .slice Ao149 t430.length co149, .slice Ao150 t433.length co150] 28 (0, 0)) (bk BK438.out) hb); have n15_ := Aside0.mk (below_step (bl5 HB.out GE361.out GE381.out GE390.out GE401.out GE438.out) hb); clear HO_382002; clear HO_382003; clear HO_391002; clear HO_391003; clear HO_402002; clear HO_402003; clear HO424; clear HO427; clear HO432; clear HO435; clear BK361; clear BK381; clear BK390; clear BK401; clear BK438; clear HB; have HO_382002 := n0_; have HO_382003 := n1_; have HO_391002 := n2_; have HO_391003 := n3_; have HO_402002 := n4_; have HO_402003 := n5_; have HO424 := n6_; have HO427 := n7_; have HO432 := n8_; have HO435 := n9_; have BK361 := n10_; have BK381 := n11_; have BK390 := n12_; have BK401 := n13_; have BK438 := n14_; have HB := n15_; clear n0_ n1_ n2_ n3_ n4_ n5_ n6_ n7_ n8_ n9_ n10_ n11_ n12_ n13_ n14_ n15_; (try clear hb); (try clear hb2); (try clear hk); (try clear hi)))
                 go_ret
                 exact ⟨by first | rfl | (simp [errW_none, errW_some] <;> rfl) | (simp [*, errW_none, errW_some] <;> rfl), bl5 HB.out GE361.out GE381.out GE390.out GE401.out GE438.out⟩
                ·rw [if_neg c128] at H
                 exact absurd H (by simp)
             ·rw [if_neg c124] at H
              exact absurd H (by simp)
            ·replace c123 := Bool.eq_false_iff.mpr c123
             subst c123
             have H1 : (none) = some r := by rw [if_neg (show ¬ (false = true) by decide)] at H; exact H
             clear H
             have H := H1
             clear H1
             exact absurd H (by simp)
           ·rw [if_neg c119] at H
            exact absurd H (by simp)
      ·replace c74 := Bool.eq_false_iff.mpr c74
       subst c74
       have H1 : (none) = some r := by rw [if_neg (show ¬ (false = true) by decide)] at H; exact H
       clear H
       have H := H1
       clear H1
       exact absurd H (by simp)

def wf49 (x : S49) : Prop := x.f0.size ≤ 140737488351232 ∧ x.f1.size ≤ 140737488351232
theorem op49 : Opens Try.prog 49 k49 wf49 := Opens.struct (d := (Kd.pair Kd.string Kd.string)) (fun x : S49 => (x.f0, x.f1)) (fun p => (⟨p.1, p.2⟩ : S49)) (fun _ => rfl) Try.underlying49 (by kernel_rfl) (OpensL.cons rfl (by kernel_rfl) (Opens.string Try.underlying9) (OpensL.last rfl (by kernel_rfl) (Opens.string Try.underlying9)))
def wf24 (x : S24) : Prop := (Lit.int .i64 x.f0).wf = true ∧ (Lit.int .i64 x.f1).wf = true ∧ (x.f2.length * 32 ≤ 140737488351232 ∧ ∀ y441 ∈ x.f2, wf49 y441) ∧ (x.f3.length * 32 ≤ 140737488351232 ∧ ∀ y442 ∈ x.f3, wf49 y442)
theorem op24 : Opens Try.prog 24 k24 wf24 := Opens.struct (d := (Kd.pair (Kd.int .i64) (Kd.pair (Kd.int .i64) (Kd.pair (Kd.slice 49 k49) (Kd.slice 49 k49))))) (fun x : S24 => (x.f0, x.f1, x.f2, x.f3)) (fun p => (⟨p.1, p.2.1, p.2.2.1, p.2.2.2⟩ : S24)) (fun _ => rfl) Try.underlying24 (by kernel_rfl) (OpensL.cons rfl (by kernel_rfl) (Opens.int Try.underlying3) (OpensL.cons rfl (by kernel_rfl) (Opens.int Try.underlying3) (OpensL.cons rfl (by kernel_rfl) (Opens.slice Try.underlying22 (by kernel_rfl) (by kernel_rfl) op49) (OpensL.last rfl (by kernel_rfl) (Opens.slice Try.underlying22 (by kernel_rfl) (by kernel_rfl) op49)))))
/-- THE ONE PURE STATEMENT of laws_FnExactGetEntry: yours. -/
def laws_FnExactGetEntry.Pure : Prop := ∀ (x0 : S24) (a1 : ByteArray), wf24 x0 → a1.size ≤ 140737488351232 → ∃ k, laws_FnExactGetEntry.f k x0.f0 x0.f1 x0.f2 x0.f3 a1 = some true
set_option maxRecDepth 100000 in
theorem laws_FnExactGetEntry.walk (P : laws_FnExactGetEntry.Pure) (x0 : S24) (cs0 : Array Value) (a1 : ByteArray) (w : World) (hk0 : k24.K w x0 cs0.toList) (w0 : wf24 x0) (w1 : a1.size ≤ 140737488351232) :
  Calls Try.prog 6 #[.agg cs0, .string a1] w fun e w' => e = .returned (.bool true) ∧ Below w.heap.size w w' := by
 obtain ⟨A0_2, c0_2, A0_3, c0_3, e0, hl0_2, hr0_2, hl0_3, hr0_3⟩ := k24_open hk0
 obtain rfl : cs0 = #[.int .i64 x0.f0, .int .i64 x0.f1, .slice A0_2 x0.f2.length c0_2, .slice A0_3 x0.f3.length c0_3] := by rw [← Array.toArray_toList (xs := cs0), e0]
 obtain ⟨k, h⟩ := P x0 a1 w0 w1
 refine (laws_FnExactGetEntry.calls k x0.f0 x0.f1 _ _ x0.f2 _ _ x0.f3 a1 true w hr0_2 hl0_2 hr0_3 hl0_3 h).mono ?_
 rintro e w' ⟨rfl, hd⟩
 exact ⟨rfl, hd⟩

end Go.Proofs.Ytfopmaiednikhaa.PFnExactGetEntry
