-- written by a program of this session (wip/tool)
import Derived.Test.YtlmnmakkojgfnaaGreatDoorPFnExactKeptForx0
import Derived.Test.YtlmnmakkojgfnaaGreatDoorVOwn0
import Derived.Test.YtlmnmakkojgfnaaGreatDoorVOwnOpen
import Derived.WalkKit
import Derived.BigCall
import Derived.Test.YtlmnmakkojgfnaaGreatDoorOwnTr
import Derived.Test.YtlmnmakkojgfnaaGreatDoorVOwnShort
import Derived.Test.YtlmnmakkojgfnaaGreatDoorOwnSq
import Derived.Test.YtlmnmakkojgfnaaGreatDoorOwnIt
namespace Go.Proofs.YtlmnmakkojgfnaaGreatDoor.PFnExactKeptFor
open Go.RowKit Go.Proofs.YtlmnmakkojgfnaaGreatDoorW.PrintWords Go.Proofs.YtlmnmakkojgfnaaGreatDoorW.PrintLast Go.Proofs.YtlmnmakkojgfnaaGreatDoorW.PrintMore Go.Shelf Go.Proofs.YtlmnmakkojgfnaaGreatDoorOwn
attribute [local go_sem] max2_int min2_int max_two min_two max_three min_three max_four min_four   -- for this text's walks alone
set_option linter.unusedVariables false
set_option linter.unusedSimpArgs false

/-! ### spec_l1Num: function 123 -/
def spec_l1Num.f : Nat → Int → Option (ByteArray)
 | 0, _ => none
 | k + 1, a0 => if a0 < 10 then (some (strOfNums (([(wrap64 (48 + a0)) % 256] : List Int)))) else ((spec_l1Num.f k (wrap64 (Int.tdiv a0 10))).bind fun t210 => ((some (([(wrap64 (48 + (Int.tmod a0 10))) % 256] : List Int) : List Int)).bind fun y211 => (if t210.size + (strOfNums y211).size ≤ 9223372036854775807 then (some (t210 ++ (strOfNums y211))) else (none))))
theorem spec_l1Num.mono_l : ∀ k, (∀ y0, LeO (spec_l1Num.f k y0) (spec_l1Num.f (k + 1) y0))
 | 0 => fun _ r h => by simp [spec_l1Num.f] at h
 | k + 1 => by
  have ih0 := spec_l1Num.mono_l k
  ·intro y0
   unfold spec_l1Num.f
   repeat' with_reducible first | exact ih0 _ | exact LeO.refl _ | exact LeO.none _ | refine LeO.ite ?_ ?_ | refine LeO.bind ?_ (fun _ => ?_)
theorem spec_l1Num.mono : ∀ a0 k, LeO (spec_l1Num.f k a0) (spec_l1Num.f (k + 1) a0) := by
 intro a0 k
 have ih0 := spec_l1Num.mono_l k
 exact ih0 a0
def spec_l1Num.T3 : Bool × List (List Nat × List Nat) := (true, [([], []), ([0], [0]), ([1], [1]), ([], []), ([3], [3]), ([4], [4]), ([5], [5]), ([6], [6]), ([7], [7]), ([2, 8], [2, 8]), ([9, 2, 0, 1, 2, 3, 4, 5, 6, 7, 8, 9], [9])])
def spec_l1Num.B3 : List Nat := [0, 1, 3, 0, 8, 24, 56, 120, 248, 511, 1023]
theorem spec_l1Num.tab3 : rtab .any (opsOf Tryz.f123 3) = spec_l1Num.T3 := by kernel_rfl
theorem spec_l1Num.bits3 : waitsOk spec_l1Num.T3.2 spec_l1Num.B3 = true := by kernel_rfl
set_option maxHeartbeats 8000000 in
set_option maxRecDepth 100000 in
theorem spec_l1Num.calls (k : Nat) : ∀ (a0 : Int) (r : ByteArray) (w : World) (h : spec_l1Num.f k a0 = some r),
  Calls Tryz.prog 123 #[.int .i64 a0] w fun e w' => e = .returned (.string r) ∧ Below w.heap.size w w' := by
 induction k using Nat.strongRecOn with
 | _ k ih =>
 intro a0 r w h
 cases k with
 | zero => exact absurd h (by simp [spec_l1Num.f])
 | succ k =>
 simp only [spec_l1Num.f] at h
 have HB := ak (Below.refl w.heap.size w)
 have H : (if a0 < 10 then (some (strOfNums (([(wrap64 (48 + a0)) % 256] : List Int)))) else ((spec_l1Num.f k (wrap64 (Int.tdiv a0 10))).bind fun t210 => ((some (([(wrap64 (48 + (Int.tmod a0 10))) % 256] : List Int) : List Int)).bind fun y211 => (if t210.size + (strOfNums y211).size ≤ 9223372036854775807 then (some (t210 ++ (strOfNums y211))) else (none))))) = some r := h
 clear h
 by_cases c2 : a0 < 10
 ·rw [if_pos c2] at H
  have c2b0 := decide_eq_true c2
  clear c2
  obtain ⟨y207, hy207⟩ : ∃ y_ : List Int, y_ = (([(wrap64 (48 + a0)) % 256] : List Int)) := ⟨_, rfl⟩
  replace H : (some (strOfNums y207)) = some r := by first | (rw [hy207]; with_reducible exact H) | (have H2_ := (Option.bind_some _ _).symm.trans H; rw [hy207]; with_reducible exact H2_) | (have H2_ := (Option.bind_some _ _).symm.trans H; with_reducible exact H2_) | with_reducible exact H | (rw [hy207]; exact H) | exact H
  have Ny207 := ak hy207
  clear hy207
  obtain rfl := Option.some.inj H
  go_enter Tryz.func123, Tryz.ntmps123
  go_wp2_with (first | ((with_reducible refine gd 8 ?_); refine Kd.R_lit (Kd.int .u8) _ 5 ?hg (N := 8) ?hd (xs := ([(wrap64 (48 + a0)) % 256] : List Int)) (inner := [.int .u8 ((wrap64 (48 + a0)) % 256)]) (ok := fun _ => True) (okp := fun _ => True) ?hr ?hp (fun _ hk => hk) trivial (Below.refl _ _) (Nat.le_refl _) (by simp) ?_; (case hd => rfl); (case hg => rfl); (case hr => first | (go_simp; done) | (go_simp; rfl)); (case hp => exact (Reps.one (show Kd.M (Kd.int .u8) _ _ _ ((wrap64 (48 + a0)) % 256) [.int .u8 ((wrap64 (48 + a0)) % 256)] from rfl) (Reps.none _ _))); intro v208 w3 ho4 hb hg_ hnew_; clear hg_ hnew_; (first | rw [← Ny207.out] at ho4 | (simp only [Int.reduceToNat] at ho4; rw [← Ny207.out] at ho4)); have HO209 := ak (Kd.R_lower ho4 (below_size (bl HB.out))); replace HB := ak (below_step (bl HB.out) hb); clear hb ho4; have hcv5 := own_string (P := Tryz.prog) Tryz.underlying66 Tryz.underlying5 Tryz.underlying9 (Kd.own_of_R HO209.out)))
  go_ret
  exact rz (bl HB.out)
 ·rw [if_neg c2] at H
  have c2b0 := decide_eq_false c2
  clear c2
  replace H := bs H
  obtain ⟨t210, A6, H⟩ := H
  try dsimp only at H
  obtain ⟨y211, hy211⟩ : ∃ y_ : List Int, y_ = (([(wrap64 (48 + (Int.tmod a0 10))) % 256] : List Int)) := ⟨_, rfl⟩
  replace H : (if t210.size + (strOfNums y211).size ≤ 9223372036854775807 then (some (t210 ++ (strOfNums y211))) else (none)) = some r := by first | (rw [hy211]; with_reducible exact H) | (have H2_ := (Option.bind_some _ _).symm.trans H; rw [hy211]; with_reducible exact H2_) | (have H2_ := (Option.bind_some _ _).symm.trans H; with_reducible exact H2_) | with_reducible exact H | (rw [hy211]; exact H) | exact H
  have Ny211 := ak hy211
  clear hy211
  by_cases c7 : t210.size + (strOfNums y211).size ≤ 9223372036854775807
  ·rw [if_pos c7] at H
   have c7b0 := eq_true c7
   have c7b1 := decide_eq_true c7
   try have c7b2 : (9223372036854775807 < t210.size + (strOfNums y211).size) = False := eq_false (Nat.not_lt.2 c7)
   obtain rfl := Option.some.inj H
   go_enter Tryz.func123, Tryz.ntmps123
   try go_wp2
   replace HB := ak (below_drew1 HB.out)
   refine start_ (n := 11) (S := fun w' => True) (ds := []) #[false, false, false, false, false, false, false, false, false, false, false] (by kernel_rfl) rfl rfl trivial (fun hHeld => ?_); refine with_tabW spec_l1Num.tab3 spec_l1Num.bits3 (fun HT_ HW_ => ?_)
   generalize w.drew = w8 at HB hHeld ⊢
   refine pu 0 (some 10) HT_ ?_
   refine pu 1 (some 11) HT_ ?_
   refine pu 3 (some 13) HT_ ?_
   refine pu 4 (some 14) HT_ ?_
   refine pu 5 (some 15) HT_ ?_
   refine pu 6 (some 16) HT_ ?_
   refine join_ (σ := Value) 2 #[true, true, true, true, true, true, true, true, true, false, false] (fun s_ => [(12, .string t210), (17, s_), (18, .string (strOfNums y211))]) (fun s_ w' => (Kd.R (Kd.int .u8) 5 w' w.heap.size (fun _ => True) s_ y211) ∧ (Below w.heap.size w w')) ?_ ?_
   rotate_left
   ·intro hCont
    refine two_ (i := 2) (j := 7) (Ni := some 12) (Nj := some 17) #[true, true, true, true, true, true, true, false, false, false, false] #[true, true, false, true, true, true, true, true, false, false, false] rfl rfl rfl rfl (two_of HT_.out (by kernel_rfl)) (by decide) (by decide) (fun K hK => ?_) (fun K hK => ?_)
    ·skip
     refine gO Tryz.func123 #[.int .i64 (wrap64 (Int.tdiv a0 10))] ?_
     with_reducible refine (ih k (by omega) (wrap64 (Int.tdiv a0 10)) t210 _ A6.out).mono ?_
     rintro e w9 ⟨rfl, hb⟩
     refine ⟨_, rfl, ?_⟩
     replace HB := ak (below_step (bl HB.out) hb)
     clear hb
     refine hK.out _ _ trivial (fun hHeld => ?_)
     clear hK K
     refine nr (some 12) ?_
     refine on 7 (some 17) HT_ (fun K hK => ?_)
     refine Kd.R_lit_step (Kd.int .u8) _ 5 ?hg (N := 17) ?hd (xs := ([(wrap64 (48 + (Int.tmod a0 10))) % 256] : List Int)) (inner := [.int .u8 ((wrap64 (48 + (Int.tmod a0 10))) % 256)]) (ok := fun _ => True) (okp := fun _ => True) ?hr ?hp (fun _ hk => hk) trivial (Below.refl _ _) (Nat.le_refl _) (by simp) ?_; (case hd => rfl); (case hg => rfl); (case hr => first | (go_simp; done) | (go_simp; rfl)); (case hp => exact (Reps.one (show Kd.M (Kd.int .u8) _ _ _ ((wrap64 (48 + (Int.tmod a0 10))) % 256) [.int .u8 ((wrap64 (48 + (Int.tmod a0 10))) % 256)] from rfl) (Reps.none _ _)))
     intro v212 w10 ho11 hb hg_ hnew_
     clear hg_ hnew_
     (first | rw [← Ny211.out] at ho11 | (simp only [Int.reduceToNat] at ho11; rw [← Ny211.out] at ho11))
     have HO213 := ak (Kd.R_lower ho11 (below_size (bl HB.out)))
     replace HB := ak (below_step (bl HB.out) hb)
     clear hb ho11
     refine hK.out _ _ trivial (fun hHeld => ?_)
     clear hK K
     refine nr (some 17) ?_
     refine on 8 (some 18) HT_ (fun K hK => ?_)
     have hcv12 := own_string (P := Tryz.prog) Tryz.underlying66 Tryz.underlying5 Tryz.underlying9 (Kd.own_of_R HO213.out)
     refine value_ (w1 := ?_) (v := ?_) (by rfl) rfl ?_ ?_
     rotate_left 2
     ·go_simp
      constructor
      ·rfl
      ·rfl
     clear hcv12
     refine hK.out _ _ trivial (fun hHeld => ?_)
     clear hK K
     refine nr (some 18) ?_
     exact norm_ (by simp only [putAll, Act.put, List.setIfInBounds_toArray, List.set_cons_zero, List.set_cons_succ]) (hCont (v212) _ ⟨(kr HO213.out), (bl HB.out)⟩)
    ·skip
     refine Kd.R_lit_step (Kd.int .u8) _ 5 ?hg (N := 17) ?hd (xs := ([(wrap64 (48 + (Int.tmod a0 10))) % 256] : List Int)) (inner := [.int .u8 ((wrap64 (48 + (Int.tmod a0 10))) % 256)]) (ok := fun _ => True) (okp := fun _ => True) ?hr ?hp (fun _ hk => hk) trivial (Below.refl _ _) (Nat.le_refl _) (by simp) ?_; (case hd => rfl); (case hg => rfl); (case hr => first | (go_simp; done) | (go_simp; rfl)); (case hp => exact (Reps.one (show Kd.M (Kd.int .u8) _ _ _ ((wrap64 (48 + (Int.tmod a0 10))) % 256) [.int .u8 ((wrap64 (48 + (Int.tmod a0 10))) % 256)] from rfl) (Reps.none _ _)))
     intro v212 w9 ho10 hb hg_ hnew_
     clear hg_ hnew_
     (first | rw [← Ny211.out] at ho10 | (simp only [Int.reduceToNat] at ho10; rw [← Ny211.out] at ho10))
     have HO213 := ak (Kd.R_lower ho10 (below_size (bl HB.out)))
     replace HB := ak (below_step (bl HB.out) hb)
     clear hb ho10
     refine hK.out _ _ trivial (fun hHeld => ?_)
     clear hK K
     refine nr (some 17) ?_
     refine two_ (i := 2) (j := 8) (Ni := some 12) (Nj := some 18) #[true, true, true, true, true, true, true, true, false, false, false] #[true, true, false, true, true, true, true, true, true, false, false] rfl rfl rfl rfl (two_of HT_.out (by kernel_rfl)) (by decide) (by decide) (fun K hK => ?_) (fun K hK => ?_)
     ·skip
      refine gO Tryz.func123 #[.int .i64 (wrap64 (Int.tdiv a0 10))] ?_
      with_reducible refine (ih k (by omega) (wrap64 (Int.tdiv a0 10)) t210 _ A6.out).mono ?_
      rintro e w11 ⟨rfl, hb⟩
      refine ⟨_, rfl, ?_⟩
      replace HO213 := ak (Kd.R_below (kr HO213.out) hb)
      replace HB := ak (below_step (bl HB.out) hb)
      clear hb
      refine hK.out _ _ trivial (fun hHeld => ?_)
      clear hK K
      refine nr (some 12) ?_
      refine on 8 (some 18) HT_ (fun K hK => ?_)
      have hcv12 := own_string (P := Tryz.prog) Tryz.underlying66 Tryz.underlying5 Tryz.underlying9 (Kd.own_of_R HO213.out)
      refine value_ (w1 := ?_) (v := ?_) (by rfl) rfl ?_ ?_
      rotate_left 2
      ·go_simp
       constructor
       ·rfl
       ·rfl
      clear hcv12
      refine hK.out _ _ trivial (fun hHeld => ?_)
      clear hK K
      refine nr (some 18) ?_
      exact norm_ (by simp only [putAll, Act.put, List.setIfInBounds_toArray, List.set_cons_zero, List.set_cons_succ]) (hCont (v212) _ ⟨(kr HO213.out), (bl HB.out)⟩)
     ·skip
      have hcv11 := own_string (P := Tryz.prog) Tryz.underlying66 Tryz.underlying5 Tryz.underlying9 (Kd.own_of_R HO213.out)
      refine value_ (w1 := ?_) (v := ?_) (by rfl) rfl ?_ ?_
      rotate_left 2
      ·go_simp
       constructor
       ·rfl
       ·rfl
      clear hcv11
      refine hK.out _ _ trivial (fun hHeld => ?_)
      clear hK K
      refine nr (some 18) ?_
      refine on 2 (some 12) HT_ (fun K hK => ?_)
      refine gO Tryz.func123 #[.int .i64 (wrap64 (Int.tdiv a0 10))] ?_
      with_reducible refine (ih k (by omega) (wrap64 (Int.tdiv a0 10)) t210 _ A6.out).mono ?_
      rintro e w12 ⟨rfl, hb⟩
      refine ⟨_, rfl, ?_⟩
      replace HO213 := ak (Kd.R_below (kr HO213.out) hb)
      replace HB := ak (below_step (bl HB.out) hb)
      clear hb
      refine hK.out _ _ trivial (fun hHeld => ?_)
      clear hK K
      refine nr (some 12) ?_
      exact norm_ (by simp only [putAll, Act.put, List.setIfInBounds_toArray, List.set_cons_zero, List.set_cons_succ]) (hCont (v212) _ ⟨(kr HO213.out), (bl HB.out)⟩)
   rintro v212 w13 ⟨h0_, h1_⟩
   have n0_ : Aside0 (Kd.R (Kd.int .u8) 5 w13 w.heap.size (fun _ => True) v212 y211) := ⟨h0_⟩
   have n1_ : Aside0 (Below w.heap.size w w13) := ⟨h1_⟩
   clear HB
   clear h0_ h1_
   have HO213 := n0_
   have HB := n1_
   clear n0_ n1_
   have hHeld := trivial
   refine norm_ (a' := ?_) ?_ ?_
   rotate_left
   ·simp only [putAll, Act.put, List.setIfInBounds_toArray, List.set_cons_zero, List.set_cons_succ]
    rfl
   refine pu 9 (some 19) HT_ ?_
   refine pu 10 (some 2) HT_ ?_
   refine done_ (done_of HT_.out (by kernel_rfl)) ?_
   try go_wp2
   go_ret
   exact rz (bl HB.out)
  ·rw [if_neg c7] at H
   exact absurd H (by simp)

/-! ### spec_l1Text: function 77 -/
def spec_l1Text.f (k : Nat) (a0_0 : ByteArray) (a0_1 : ByteArray) (a0_2 : Int) (a0_3 : ByteArray) (a0_4 : ByteArray) (a0_5 : Bool) : Option (ByteArray) := if a0_0.size + 3 ≤ 9223372036854775807 then (if (a0_0 ++ (⟨#[58, 47, 47]⟩ : ByteArray)).size + a0_1.size ≤ 9223372036854775807 then (if a0_2 = 0 then (if ((a0_0 ++ (⟨#[58, 47, 47]⟩ : ByteArray)) ++ a0_1).size + a0_3.size ≤ 9223372036854775807 then (if a0_5 = true then (if 1 + a0_4.size ≤ 9223372036854775807 then (if (((a0_0 ++ (⟨#[58, 47, 47]⟩ : ByteArray)) ++ a0_1) ++ a0_3).size + ((⟨#[63]⟩ : ByteArray) ++ a0_4).size ≤ 9223372036854775807 then (some ((((a0_0 ++ (⟨#[58, 47, 47]⟩ : ByteArray)) ++ a0_1) ++ a0_3) ++ ((⟨#[63]⟩ : ByteArray) ++ a0_4))) else (none)) else (none)) else (some (((a0_0 ++ (⟨#[58, 47, 47]⟩ : ByteArray)) ++ a0_1) ++ a0_3))) else (none)) else ((spec_l1Num.f k a0_2).bind fun t215 => (if 1 + t215.size ≤ 9223372036854775807 then (if ((a0_0 ++ (⟨#[58, 47, 47]⟩ : ByteArray)) ++ a0_1).size + ((⟨#[58]⟩ : ByteArray) ++ t215).size ≤ 9223372036854775807 then (if (((a0_0 ++ (⟨#[58, 47, 47]⟩ : ByteArray)) ++ a0_1) ++ ((⟨#[58]⟩ : ByteArray) ++ t215)).size + a0_3.size ≤ 9223372036854775807 then (if a0_5 = true then (if 1 + a0_4.size ≤ 9223372036854775807 then (if ((((a0_0 ++ (⟨#[58, 47, 47]⟩ : ByteArray)) ++ a0_1) ++ ((⟨#[58]⟩ : ByteArray) ++ t215)) ++ a0_3).size + ((⟨#[63]⟩ : ByteArray) ++ a0_4).size ≤ 9223372036854775807 then (some (((((a0_0 ++ (⟨#[58, 47, 47]⟩ : ByteArray)) ++ a0_1) ++ ((⟨#[58]⟩ : ByteArray) ++ t215)) ++ a0_3) ++ ((⟨#[63]⟩ : ByteArray) ++ a0_4))) else (none)) else (none)) else (some ((((a0_0 ++ (⟨#[58, 47, 47]⟩ : ByteArray)) ++ a0_1) ++ ((⟨#[58]⟩ : ByteArray) ++ t215)) ++ a0_3))) else (none)) else (none)) else (none)))) else (none)) else (none)
theorem spec_l1Text.mono : ∀ a0 a1 a2 a3 a4 a5 k, LeO (spec_l1Text.f k a0 a1 a2 a3 a4 a5) (spec_l1Text.f (k + 1) a0 a1 a2 a3 a4 a5) := by
 intro a0 a1 a2 a3 a4 a5 k
 unfold spec_l1Text.f
 repeat' with_reducible first | exact spec_l1Num.mono _ _ | exact LeO.refl _ | exact LeO.none _ | refine LeO.ite ?_ ?_ | refine LeO.bind ?_ (fun _ => ?_)
set_option maxHeartbeats 8000000 in
set_option maxRecDepth 100000 in
theorem spec_l1Text.calls (k : Nat) (a0_0 : ByteArray) (a0_1 : ByteArray) (a0_2 : Int) (a0_3 : ByteArray) (a0_4 : ByteArray) (a0_5 : Bool) (r : ByteArray) (w : World) (h : spec_l1Text.f k a0_0 a0_1 a0_2 a0_3 a0_4 a0_5 = some r) :
  Calls Tryz.prog 77 #[.agg #[.string a0_0, .string a0_1, .int .i64 a0_2, .string a0_3, .string a0_4, .bool a0_5]] w fun e w' => e = .returned (.string r) ∧ Below w.heap.size w w' := by
 have hu29 := Tryz.underlying29
 have HB := ak (Below.refl w.heap.size w)
 unfold spec_l1Text.f at h; have H := h
 clear h
 by_cases c2 : a0_0.size + 3 ≤ 9223372036854775807
 ·rw [if_pos c2] at H
  have c2b0 := eq_true c2
  have c2b1 := decide_eq_true c2
  try have c2b2 : (9223372036854775807 < a0_0.size + 3) = False := eq_false (Nat.not_lt.2 c2)
  by_cases c3 : (a0_0 ++ (⟨#[58, 47, 47]⟩ : ByteArray)).size + a0_1.size ≤ 9223372036854775807
  ·rw [if_pos c3] at H
   have c3b0 := eq_true c3
   have c3b1 := decide_eq_true c3
   try have c3b2 : (9223372036854775807 < (a0_0 ++ (⟨#[58, 47, 47]⟩ : ByteArray)).size + a0_1.size) = False := eq_false (Nat.not_lt.2 c3)
   try have c3b3 : (9223372036854775807 < a0_0.size + 3 + a0_1.size) = False := by (have h_ := c3b2; simp only [ByteArray.size_append] at h_; exact h_)
   by_cases c4 : a0_2 = 0
   ·rw [if_pos c4] at H
    have c4b0 : (a0_2 == 0) = true := beq_iff_eq.mpr c4
    have c4b1 : (a0_2 != 0) = false := bne_eq_false_iff_eq.mpr c4
    clear c4
    by_cases c5 : ((a0_0 ++ (⟨#[58, 47, 47]⟩ : ByteArray)) ++ a0_1).size + a0_3.size ≤ 9223372036854775807
    ·rw [if_pos c5] at H
     have c5b0 := eq_true c5
     have c5b1 := decide_eq_true c5
     try have c5b2 : (9223372036854775807 < ((a0_0 ++ (⟨#[58, 47, 47]⟩ : ByteArray)) ++ a0_1).size + a0_3.size) = False := eq_false (Nat.not_lt.2 c5)
     try have c5b3 : (9223372036854775807 < a0_0.size + 3 + a0_1.size + a0_3.size) = False := by (have h_ := c5b2; simp only [ByteArray.size_append] at h_; exact h_)
     by_cases c6 : a0_5 = true
     ·subst c6
      rw [if_pos rfl] at H
      by_cases c7 : 1 + a0_4.size ≤ 9223372036854775807
      ·rw [if_pos c7] at H
       have c7b0 := eq_true c7
       have c7b1 := decide_eq_true c7
       try have c7b2 : (9223372036854775807 < 1 + a0_4.size) = False := eq_false (Nat.not_lt.2 c7)
       by_cases c8 : (((a0_0 ++ (⟨#[58, 47, 47]⟩ : ByteArray)) ++ a0_1) ++ a0_3).size + ((⟨#[63]⟩ : ByteArray) ++ a0_4).size ≤ 9223372036854775807
       ·rw [if_pos c8] at H
        have c8b0 := eq_true c8
        have c8b1 := decide_eq_true c8
        try have c8b2 : (9223372036854775807 < (((a0_0 ++ (⟨#[58, 47, 47]⟩ : ByteArray)) ++ a0_1) ++ a0_3).size + ((⟨#[63]⟩ : ByteArray) ++ a0_4).size) = False := eq_false (Nat.not_lt.2 c8)
        try have c8b3 : (9223372036854775807 < a0_0.size + 3 + a0_1.size + a0_3.size + (1 + a0_4.size)) = False := by (have h_ := c8b2; simp only [ByteArray.size_append] at h_; exact h_)
        obtain rfl := Option.some.inj H
        go_enter Tryz.func77, Tryz.ntmps77
        go_wp2_with (first | ((with_reducible refine gd 1 ?_); refine bE 1 #[.string a0_0, .string a0_1, .int .i64 a0_2, .string a0_3, .string a0_4, .bool true] 29 ?_; intro gb214 hg w9 hbox hb; have BK214 := ak hbox; have GW214 := gs hg (bl HB.out); have GE214 := gs hg (bl HB.out); replace HB := ak (below_step (bl HB.out) hb); clear hb hbox hg; obtain ⟨_, _, _, _, _, _, _, _, _, _, _, _⟩ := b6 BK214.out))
        go_ret
        exact rz (bl1 HB.out GE214.out)
       ·rw [if_neg c8] at H
        exact absurd H (by simp)
      ·rw [if_neg c7] at H
       exact absurd H (by simp)
     ·replace c6 := Bool.eq_false_iff.mpr c6
      subst c6
      rw [if_neg ff] at H
      obtain rfl := Option.some.inj H
      go_enter Tryz.func77, Tryz.ntmps77
      go_wp2_with (first | ((with_reducible refine gd 1 ?_); refine bE 1 #[.string a0_0, .string a0_1, .int .i64 a0_2, .string a0_3, .string a0_4, .bool false] 29 ?_; intro gb214 hg w11 hbox hb; have BK214 := ak hbox; have GW214 := gs hg (bl HB.out); have GE214 := gs hg (bl HB.out); replace HB := ak (below_step (bl HB.out) hb); clear hb hbox hg; obtain ⟨_, _, _, _, _, _, _, _, _, _, _, _⟩ := b6 BK214.out))
      go_ret
      exact rz (bl1 HB.out GE214.out)
    ·rw [if_neg c5] at H
     exact absurd H (by simp)
   ·rw [if_neg c4] at H
    have c4b0 : (a0_2 == 0) = false := beq_eq_false_iff_ne.mpr c4
    have c4b1 : (a0_2 != 0) = true := bne_iff_ne.mpr c4
    replace H := bs H
    obtain ⟨t215, A13, H⟩ := H
    try dsimp only at H
    by_cases c14 : 1 + t215.size ≤ 9223372036854775807
    ·rw [if_pos c14] at H
     have c14b0 := eq_true c14
     have c14b1 := decide_eq_true c14
     try have c14b2 : (9223372036854775807 < 1 + t215.size) = False := eq_false (Nat.not_lt.2 c14)
     by_cases c15 : ((a0_0 ++ (⟨#[58, 47, 47]⟩ : ByteArray)) ++ a0_1).size + ((⟨#[58]⟩ : ByteArray) ++ t215).size ≤ 9223372036854775807
     ·rw [if_pos c15] at H
      have c15b0 := eq_true c15
      have c15b1 := decide_eq_true c15
      try have c15b2 : (9223372036854775807 < ((a0_0 ++ (⟨#[58, 47, 47]⟩ : ByteArray)) ++ a0_1).size + ((⟨#[58]⟩ : ByteArray) ++ t215).size) = False := eq_false (Nat.not_lt.2 c15)
      try have c15b3 : (9223372036854775807 < a0_0.size + 3 + a0_1.size + (1 + t215.size)) = False := by (have h_ := c15b2; simp only [ByteArray.size_append] at h_; exact h_)
      by_cases c16 : (((a0_0 ++ (⟨#[58, 47, 47]⟩ : ByteArray)) ++ a0_1) ++ ((⟨#[58]⟩ : ByteArray) ++ t215)).size + a0_3.size ≤ 9223372036854775807
      ·rw [if_pos c16] at H
       have c16b0 := eq_true c16
       have c16b1 := decide_eq_true c16
       try have c16b2 : (9223372036854775807 < (((a0_0 ++ (⟨#[58, 47, 47]⟩ : ByteArray)) ++ a0_1) ++ ((⟨#[58]⟩ : ByteArray) ++ t215)).size + a0_3.size) = False := eq_false (Nat.not_lt.2 c16)
       try have c16b3 : (9223372036854775807 < a0_0.size + 3 + a0_1.size + (1 + t215.size) + a0_3.size) = False := by (have h_ := c16b2; simp only [ByteArray.size_append] at h_; exact h_)
       by_cases c17 : a0_5 = true
       ·subst c17
        rw [if_pos rfl] at H
        by_cases c18 : 1 + a0_4.size ≤ 9223372036854775807
        ·rw [if_pos c18] at H
         have c18b0 := eq_true c18
         have c18b1 := decide_eq_true c18
         try have c18b2 : (9223372036854775807 < 1 + a0_4.size) = False := eq_false (Nat.not_lt.2 c18)
         by_cases c19 : ((((a0_0 ++ (⟨#[58, 47, 47]⟩ : ByteArray)) ++ a0_1) ++ ((⟨#[58]⟩ : ByteArray) ++ t215)) ++ a0_3).size + ((⟨#[63]⟩ : ByteArray) ++ a0_4).size ≤ 9223372036854775807
         ·rw [if_pos c19] at H
          have c19b0 := eq_true c19
          have c19b1 := decide_eq_true c19
          try have c19b2 : (9223372036854775807 < ((((a0_0 ++ (⟨#[58, 47, 47]⟩ : ByteArray)) ++ a0_1) ++ ((⟨#[58]⟩ : ByteArray) ++ t215)) ++ a0_3).size + ((⟨#[63]⟩ : ByteArray) ++ a0_4).size) = False := eq_false (Nat.not_lt.2 c19)
          try have c19b3 : (9223372036854775807 < a0_0.size + 3 + a0_1.size + (1 + t215.size) + a0_3.size + (1 + a0_4.size)) = False := by (have h_ := c19b2; simp only [ByteArray.size_append] at h_; exact h_)
          obtain rfl := Option.some.inj H
          go_enter Tryz.func77, Tryz.ntmps77
          go_wp2_with (first | ((with_reducible refine gd 1 ?_); refine bE 1 #[.string a0_0, .string a0_1, .int .i64 a0_2, .string a0_3, .string a0_4, .bool true] 29 ?_; intro gb214 hg w20 hbox hb; have BK214 := ak hbox; have GW214 := gs hg (bl HB.out); have GE214 := gs hg (bl HB.out); replace HB := ak (below_step (bl HB.out) hb); clear hb hbox hg; obtain ⟨_, _, _, _, _, _, _, _, _, _, _, _⟩ := b6 BK214.out) | ((with_reducible refine gc 123 ?_); refine gL 123 Tryz.func123 (some 16) #[.int .i64 a0_2] ?_; (with_reducible refine (spec_l1Num.calls k a0_2 t215 _ A13.out).mono ?_); rintro e w22 ⟨rfl, hb⟩; refine ⟨_, rfl, ?_⟩; replace BK214 := ak (blk_below (bk BK214.out) hb); replace HB := ak (below_step (bl1 HB.out GE214.out) hb); clear hb; obtain ⟨_, _, _, _, _, _, _, _, _, _, _, _⟩ := b6 BK214.out))
          go_ret
          exact rz (bl1 HB.out GE214.out)
         ·rw [if_neg c19] at H
          exact absurd H (by simp)
        ·rw [if_neg c18] at H
         exact absurd H (by simp)
       ·replace c17 := Bool.eq_false_iff.mpr c17
        subst c17
        rw [if_neg ff] at H
        obtain rfl := Option.some.inj H
        go_enter Tryz.func77, Tryz.ntmps77
        go_wp2_with (first | ((with_reducible refine gd 1 ?_); refine bE 1 #[.string a0_0, .string a0_1, .int .i64 a0_2, .string a0_3, .string a0_4, .bool false] 29 ?_; intro gb214 hg w24 hbox hb; have BK214 := ak hbox; have GW214 := gs hg (bl HB.out); have GE214 := gs hg (bl HB.out); replace HB := ak (below_step (bl HB.out) hb); clear hb hbox hg; obtain ⟨_, _, _, _, _, _, _, _, _, _, _, _⟩ := b6 BK214.out) | ((with_reducible refine gc 123 ?_); refine gL 123 Tryz.func123 (some 16) #[.int .i64 a0_2] ?_; (with_reducible refine (spec_l1Num.calls k a0_2 t215 _ A13.out).mono ?_); rintro e w26 ⟨rfl, hb⟩; refine ⟨_, rfl, ?_⟩; replace BK214 := ak (blk_below (bk BK214.out) hb); replace HB := ak (below_step (bl1 HB.out GE214.out) hb); clear hb; obtain ⟨_, _, _, _, _, _, _, _, _, _, _, _⟩ := b6 BK214.out))
        go_ret
        exact rz (bl1 HB.out GE214.out)
      ·rw [if_neg c16] at H
       exact absurd H (by simp)
     ·rw [if_neg c15] at H
      exact absurd H (by simp)
    ·rw [if_neg c14] at H
     exact absurd H (by simp)
  ·rw [if_neg c3] at H
   exact absurd H (by simp)
 ·rw [if_neg c2] at H
  exact absurd H (by simp)

end Go.Proofs.YtlmnmakkojgfnaaGreatDoor.PFnExactKeptFor
