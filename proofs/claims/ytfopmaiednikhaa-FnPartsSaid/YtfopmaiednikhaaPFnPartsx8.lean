-- written by a program of this session (wip/tool)
import Derived.Test.YtfopmaiednikhaaPFnPartsx0
import Derived.Test.YtfopmaiednikhaaPFnPartsx4
import Derived.Test.YtfopmaiednikhaaPFnPartsx6
import Derived.Test.YtfopmaiednikhaaPFnPartsx7
import Derived.Test.YtfopmaiednikhaaVOwn0
import Derived.Test.YtfopmaiednikhaaVOwnOpen
import Derived.WalkKit
import Derived.BigCall
import Derived.Lib.SliceRun
import Derived.Deep.RegionLaw
import Derived.Maps.OwnSet
import Derived.Maps.OwnOps
import Derived.Maps.Views
import Derived.Test.YtfopmaiednikhaaVWZeros
import Derived.Test.YtfopmaiednikhaaVWArr
import Derived.Test.YtfopmaiednikhaaVOwnShort
import Derived.Test.YtfopmaiednikhaaOwnSq
namespace Go.Proofs.Ytfopmaiednikhaa.PFnParts
open Go.RowKit Go.Proofs.YtfopmaiednikhaaW.PrintWords Go.Proofs.YtfopmaiednikhaaW.PrintLast Go.Proofs.YtfopmaiednikhaaW.PrintMore Go.Shelf Go.Proofs.YtfopmaiednikhaaOwn
attribute [local go_sem] max2_int min2_int max_two min_two max_three min_three max_four min_four   -- for this text's walks alone
set_option linter.unusedVariables false
set_option linter.unusedSimpArgs false

/-! ### spec_l12Put: function 56 -/
def spec_l12Put.f (k : Nat) (a0_0 : Int) (a0_1 : Int) (l0_2 : List (S45)) (l0_3 : List (S45)) (a1_0 : ByteArray) (a1_1 : ByteArray) : Option (Int × Int × (List (S45)) × (List (S45)) × (List (S45))) := (spec_l12At.f k l0_3 a1_0).bind fun t260 => (if t260 ≥ 0 then ((spec_l12Without.f l0_3 t260).bind fun t261 => ((spec_l12Ahead.f t261 a1_0 a1_1).bind fun t264 => ((spec_l12Fit.f k a0_0 a0_1 l0_2 t264).bind fun bt267 => (some (bt267.1, bt267.2.1, bt267.2.2.1, bt267.2.2.2.1, bt267.2.2.2.2))))) else ((spec_l12At.f k l0_2 a1_0).bind fun t278 => (if t278 ≥ 0 then ((spec_l12Without.f l0_2 t278).bind fun t279 => ((spec_l12Ahead.f t279 a1_0 a1_1).bind fun t282 => ((spec_l12Fit.f k a0_0 a0_1 t282 l0_3).bind fun bt285 => (some (bt285.1, bt285.2.1, bt285.2.2.1, bt285.2.2.2.1, bt285.2.2.2.2))))) else ((spec_l12Ahead.f l0_2 a1_0 a1_1).bind fun t296 => ((spec_l12Fit.f k a0_0 a0_1 t296 l0_3).bind fun bt299 => (some (bt299.1, bt299.2.1, bt299.2.2.1, bt299.2.2.2.1, bt299.2.2.2.2)))))))
theorem spec_l12Put.mono : ∀ a0 a1 a2 a3 a4 a5 k, LeO (spec_l12Put.f k a0 a1 a2 a3 a4 a5) (spec_l12Put.f (k + 1) a0 a1 a2 a3 a4 a5) := by
 intro a0 a1 a2 a3 a4 a5 k
 unfold spec_l12Put.f
 repeat' first
   | (with_reducible exact spec_l12At.mono _ _ _)
   | (with_reducible exact spec_l12Fit.mono _ _ _ _ _)
   | (with_reducible exact LeO.refl _)
   | (with_reducible exact LeO.none _)
   | (with_reducible refine LeO.ite ?_ ?_)
   | (with_reducible refine LeO.bind ?_ (fun _ => ?_))
   | exact spec_l12At.mono _ _ _
   | exact spec_l12Fit.mono _ _ _ _ _
   | exact LeO.none _
   | refine LeO.ite ?_ ?_
   | refine LeO.bind ?_ (fun _ => ?_)
def spec_l12Put.T3 : Bool × List (List Nat × List Nat) := (true, [([], []), ([0], [0]), ([], []), ([1, 2], [1, 2]), ([], []), ([3, 4, 3], [3, 4]), ([0, 1, 2, 3, 4, 5], []), ([6, 5, 5, 0, 1, 2, 3, 4, 5], [5, 6])])
def spec_l12Put.B3 : List Nat := [0, 1, 0, 7, 0, 31, 63, 127]
theorem spec_l12Put.tab3 : rtab .any (opsOf Try.f56 3) = spec_l12Put.T3 := by kernel_rfl
theorem spec_l12Put.bits3 : waitsOk spec_l12Put.T3.2 spec_l12Put.B3 = true := by kernel_rfl
set_option maxHeartbeats 8000000 in
set_option maxRecDepth 100000 in
theorem spec_l12Put.calls (k : Nat) (a0_0 : Int) (a0_1 : Int) (A0_2 : Option Addr) (c0_2 : Nat) (l0_2 : List (S45)) (A0_3 : Option Addr) (c0_3 : Nat) (l0_3 : List (S45)) (a1_0 : ByteArray) (a1_1 : ByteArray) (r1 : Int) (r2 : Int) (r3 : List (S45)) (r4 : List (S45)) (r5 : List (S45)) (w : World) (hr0_2 : Kd.C k45 w A0_2 l0_2.length l0_2) (hc0_2 : l0_2.length ≤ c0_2) (hr0_3 : Kd.C k45 w A0_3 l0_3.length l0_3) (hc0_3 : l0_3.length ≤ c0_3) (h : spec_l12Put.f k a0_0 a0_1 l0_2 l0_3 a1_0 a1_1 = some (r1, r2, r3, r4, r5)) :
  Calls Try.prog 56 #[.agg #[.int .i64 a0_0, .int .i64 a0_1, .slice A0_2 l0_2.length c0_2, .slice A0_3 l0_3.length c0_3], .agg #[.string a1_0, .string a1_1]] w fun e w' => ∃ v2_ v3_ v4_ : Value, e = .returned (.tuple #[.agg #[.int .i64 r1, .int .i64 r2, v2_, v3_], v4_]) ∧ Kd.R k45 45 w' w.heap.size (fun k_ => some k_ ≠ (v3_ : Value).ownBlock ∧ some k_ ≠ (v4_ : Value).ownBlock) v2_ r3 ∧ Kd.R k45 45 w' w.heap.size (fun k_ => some k_ ≠ (v2_ : Value).ownBlock ∧ some k_ ≠ (v4_ : Value).ownBlock) v3_ r4 ∧ Kd.R k45 45 w' w.heap.size (fun k_ => some k_ ≠ (v2_ : Value).ownBlock ∧ some k_ ≠ (v3_ : Value).ownBlock) v4_ r5 ∧ Below w.heap.size w w' := by
 have hu28 := Try.underlying28
 have hu45 := Try.underlying45
 have HR0_2 := ak hr0_2
 have HC0_2 := ak hc0_2
 clear hr0_2 hc0_2
 have HR0_3 := ak hr0_3
 have HC0_3 := ak hc0_3
 clear hr0_3 hc0_3
 have HB := ak (Below.refl w.heap.size w)
 have H : ((spec_l12At.f k l0_3 a1_0).bind fun t260 => (if t260 ≥ 0 then ((spec_l12Without.f l0_3 t260).bind fun t261 => ((spec_l12Ahead.f t261 a1_0 a1_1).bind fun t264 => ((spec_l12Fit.f k a0_0 a0_1 l0_2 t264).bind fun bt267 => (some (bt267.1, bt267.2.1, bt267.2.2.1, bt267.2.2.2.1, bt267.2.2.2.2))))) else ((spec_l12At.f k l0_2 a1_0).bind fun t278 => (if t278 ≥ 0 then ((spec_l12Without.f l0_2 t278).bind fun t279 => ((spec_l12Ahead.f t279 a1_0 a1_1).bind fun t282 => ((spec_l12Fit.f k a0_0 a0_1 t282 l0_3).bind fun bt285 => (some (bt285.1, bt285.2.1, bt285.2.2.1, bt285.2.2.2.1, bt285.2.2.2.2))))) else ((spec_l12Ahead.f l0_2 a1_0 a1_1).bind fun t296 => ((spec_l12Fit.f k a0_0 a0_1 t296 l0_3).bind fun bt299 => (some (bt299.1, bt299.2.1, bt299.2.2.1, bt299.2.2.2.1, bt299.2.2.2.2)))))))) = some (r1, r2, r3, r4, r5) := h
 clear h
 replace H := Option.bind_eq_some_iff.mp H
 obtain ⟨t260, A30, H⟩ := H
 try dsimp only at H
 have A3 := ak A30
 clear A30
 by_cases c4 : t260 ≥ 0
 ·rw [if_pos c4] at H
  have c4b0 : decide (0 ≤ t260) = true := decide_eq_true c4
  clear c4
  replace H := Option.bind_eq_some_iff.mp H
  obtain ⟨t261, A50, H⟩ := H
  try dsimp only at H
  have A5 := ak A50
  clear A50
  replace H := Option.bind_eq_some_iff.mp H
  obtain ⟨t264, A60, H⟩ := H
  try dsimp only at H
  have A6 := ak A60
  clear A60
  replace H := Option.bind_eq_some_iff.mp H
  obtain ⟨⟨t267, t268, t269, t272, t275⟩, A70, H⟩ := H
  try dsimp only at H
  have A7 := ak A70
  clear A70
  simp only [Option.some.injEq, Prod.mk.injEq] at H
  obtain ⟨rfl, rfl, rfl, rfl, rfl⟩ := H
  go_enter Try.func56, Try.ntmps56
  try go_wp2_with (first | (refine bE 2 #[.int .i64 a0_0, .int .i64 a0_1, .slice A0_2 l0_2.length c0_2, .slice A0_3 l0_3.length c0_3] 28 ?_; intro gb257 hg w8 hbox hb; have BK257 := ak hbox; have GW257 := gs hg (bl HB.out); have GE257 := gs hg (bl HB.out); replace HB := ak (below_step (bl HB.out) hb); clear hb hbox hg) | (refine bE 3 #[.string a1_0, .string a1_1] 45 ?_; intro gb258 hg w9 hbox hb; have BK258 := ak hbox; have GW258 := gs hg (bl1 HB.out GE257.out); have GE258 := gs hg (bl1 HB.out GE257.out); replace HB := ak (below_step (bl1 HB.out GE257.out) hb); have NB257_258 := nl hg BK257.out; have NB258_257 := ng hg BK257.out; replace BK257 := ak (blk_below (bk BK257.out) hb); clear hb hbox hg) | (refine bE 4 #[.int .i64 0, .int .i64 0, .slice none 0 0, .slice none 0 0] 28 ?_; intro gb259 hg w10 hbox hb; have BK259 := ak hbox; have GW259 := gs hg (bl2 HB.out GE257.out GE258.out); have GE259 := gs hg (bl2 HB.out GE257.out GE258.out); replace HB := ak (below_step (bl2 HB.out GE257.out GE258.out) hb); have NB257_259 := nl hg BK257.out; have NB259_257 := ng hg BK257.out; replace BK257 := ak (blk_below (bk BK257.out) hb); have NB258_259 := nl hg BK258.out; have NB259_258 := ng hg BK258.out; replace BK258 := ak (blk_below (bk BK258.out) hb); clear hb hbox hg; have hnb11 := NB257_258.out; have hnc11 := NB258_257.out; have hnb12 := NB257_259.out; have hnc12 := NB259_257.out; obtain ⟨hcz13_0, hcz13_1, hcz13_2, hcz13_3, hfz13_0, hfz13_1, hfz13_2, hfz13_3⟩ := b4 BK257.out; have hnb14 := NB258_259.out; have hnc14 := NB259_258.out; obtain ⟨hcz15_0, hcz15_1, hfz15_0, hfz15_1⟩ := b2 BK258.out) | (refine gL 43 Try.func43 (some 12) #[.slice A0_3 l0_3.length c0_3, .string a1_0] ?_; (with_reducible refine (spec_l12At.calls k _ _ l0_3 a1_0 t260 _ ?side1 ?side2 A3.out).mono ?_); (case side1 => exact kc (Kd.C_below HR0_3.out HB.out)); (case side2 => exact HC0_3.out); rintro e w16 ⟨rfl, hb⟩; refine ⟨_, rfl, ?_⟩; replace BK257 := ak (blk_below (bk BK257.out) hb); replace BK258 := ak (blk_below (bk BK258.out) hb); replace BK259 := ak (blk_below (bk BK259.out) hb); replace HB := ak (below_step (bl3 HB.out GE257.out GE258.out GE259.out) hb); clear hb))
  replace BK257 := ak (blk_drew BK257.out)
  replace BK258 := ak (blk_drew BK258.out)
  replace BK259 := ak (blk_drew BK259.out)
  replace HB := ak (below_drew1 HB.out)
  refine start_ (n := 8) (S := fun w' => w'.cell? ⟨gb257, 0, none⟩ = some (.int .i64 a0_0) ∧ w'.cell? ⟨gb257, 1, none⟩ = some (.int .i64 a0_1) ∧ w'.cell? ⟨gb257, 2, none⟩ = some (.slice A0_2 l0_2.length c0_2) ∧ w'.cell? ⟨gb257, 3, none⟩ = some (.slice A0_3 l0_3.length c0_3) ∧ w'.cell? ⟨gb258, 0, none⟩ = some (.string a1_0) ∧ w'.cell? ⟨gb258, 1, none⟩ = some (.string a1_1)) (ds := [7]) #[false, false, false, false, false, false, false, false] (by kernel_rfl) rfl rfl ⟨(blk_cell BK257.out 0).trans rfl, (blk_cell BK257.out 1).trans rfl, (blk_cell BK257.out 2).trans rfl, (blk_cell BK257.out 3).trans rfl, (blk_cell BK258.out 0).trans rfl, (blk_cell BK258.out 1).trans rfl⟩ (fun hHeld => ?_); refine with_tabW spec_l12Put.tab3 spec_l12Put.bits3 (fun HT_ HW_ => ?_)
  generalize w16.drew = w17 at BK257 BK258 BK259 HB hHeld ⊢
  refine pu 0 (some 15) HT_ ?_
  refine pu 2 (some 17) HT_ ?_
  refine tk 1 (some 16) HT_ HW_ hHeld ?_
  refine tk 4 (some 19) HT_ HW_ hHeld ?_
  refine on 3 (some 18) HT_ (fun K hK => ?_)
  refine gO Try.func44 #[.slice A0_3 l0_3.length c0_3, .int .i64 t260] ?_
  with_reducible refine (spec_l12Without.calls _ _ l0_3 t260 t261 _ ?side1 ?side2 A5.out).mono ?_
  (case side1 => exact kc (Kd.C_below HR0_3.out HB.out))
  (case side2 => exact HC0_3.out)
  rintro e w18 ⟨v262, rfl, ho0, hb⟩
  refine ⟨_, rfl, ?_⟩
  have HO263 := ak (Kd.R_lower (Kd.R_newB ho0 (bk BK258.out)) (below_size (bl3 HB.out GE257.out GE258.out GE259.out)))
  replace BK257 := ak (blk_below (bk BK257.out) hb)
  replace BK258 := ak (blk_below (bk BK258.out) hb)
  replace BK259 := ak (blk_below (bk BK259.out) hb)
  replace HB := ak (below_step (bl3 HB.out GE257.out GE258.out GE259.out) hb)
  clear hb
  (try clear hb2)
  (try clear hk)
  (try clear hi)
  clear ho0
  obtain ⟨Ao19, co19, eo19⟩ := Kd.R_slice HO263.out
  (first | subst eo19 | (injection eo19 with f1_ f2_ f3_; have f4_ := f1_.symm; have f5_ := f3_.symm; clear f1_ f2_ f3_; subst f4_; subst f5_))
  refine hK.out _ _ ⟨(blk_cell BK257.out 0).trans rfl, (blk_cell BK257.out 1).trans rfl, (blk_cell BK257.out 2).trans rfl, (blk_cell BK257.out 3).trans rfl, (blk_cell BK258.out 0).trans rfl, (blk_cell BK258.out 1).trans rfl⟩ (fun hHeld => ?_)
  clear hK K
  refine norm_ (a' := ?_) ?_ ?_
  rotate_left
  ·show Act.put _ (some 18) _ = _
   simp only [Act.put, List.setIfInBounds_toArray, List.set_cons_zero, List.set_cons_succ, i64_w, i32_w]
   rfl
  refine on 5 (some 20) HT_ (fun K hK => ?_)
  refine gO Try.func80 #[.slice Ao19 t261.length co19, .agg #[.string a1_0, .string a1_1]] ?_
  with_reducible refine (spec_l12Ahead.calls _ _ t261 a1_0 a1_1 t264 _ ?side1 ?side2 A6.out).mono ?_
  (case side1 => exact kc (Kd.R_reads' HO263.out).2.2)
  (case side2 => exact (Kd.R_reads' HO263.out).2.1)
  rintro e w20 ⟨v265, rfl, ho0, hb⟩
  refine ⟨_, rfl, ?_⟩
  have HO266 := ak (Kd.R_lower (Kd.R_newB (Kd.R_new' ho0 (Kd.R_lt (kr HO263.out))) (bk BK258.out)) (below_size (bl3 HB.out GE257.out GE258.out GE259.out)))
  replace HO263 := ak (Kd.R_elder' (kr HO263.out) (Kd.R_base ho0) hb)
  replace BK257 := ak (blk_below (bk BK257.out) hb)
  replace BK258 := ak (blk_below (bk BK258.out) hb)
  replace BK259 := ak (blk_below (bk BK259.out) hb)
  replace HB := ak (below_step (bl3 HB.out GE257.out GE258.out GE259.out) hb)
  clear hb
  (try clear hb2)
  (try clear hk)
  (try clear hi)
  clear ho0
  obtain ⟨Ao21, co21, eo21⟩ := Kd.R_slice HO266.out
  (first | subst eo21 | (injection eo21 with f1_ f2_ f3_; have f4_ := f1_.symm; have f5_ := f3_.symm; clear f1_ f2_ f3_; subst f4_; subst f5_))
  refine hK.out _ _ ⟨(blk_cell BK257.out 0).trans rfl, (blk_cell BK257.out 1).trans rfl, (blk_cell BK257.out 2).trans rfl, (blk_cell BK257.out 3).trans rfl, (blk_cell BK258.out 0).trans rfl, (blk_cell BK258.out 1).trans rfl⟩ (fun hHeld => ?_)
  clear hK K
  refine norm_ (a' := ?_) ?_ ?_
  rotate_left
  ·show Act.put _ (some 20) _ = _
   simp only [Act.put, List.setIfInBounds_toArray, List.set_cons_zero, List.set_cons_succ, i64_w, i32_w]
   rfl
  refine pu 6 (some 21) HT_ ?_
  refine last_ (i := 7) (N := none) #[true, true, true, true, true, true, true, true] rfl rfl (one_of HT_.out (by kernel_rfl)) (by decide) (fun K hK => ?_)
  have hs22 := bc3 BK257.out
  have hfs22 := blk_frozen BK257.out 3
  have hns22_1 := NB258_257.out
  have hns22_2 := NB259_257.out
  have hms22_1 := NB257_258.out
  have hms22_2 := NB257_259.out
  refine skip_ (w1 := ?_) (by rfl) rfl ?_ ?_
  rotate_left
  ·go_simp
   rfl
  refine hK.out _ _ ?_
  clear hK K
  refine done_ (done_of HT_.out (by kernel_rfl)) ?_
  have n0_ : Aside0 (Kd.R k45 45 (w20.setCell ⟨gb257, 3, none⟩ (.slice Ao21 t264.length co21)) w.heap.size (fun k_ => some k_ ≠ (.slice Ao21 t264.length co21 : Value).ownBlock ∧ k_ ≠ gb258) (.slice Ao19 t261.length co19) t261) := ⟨by (with_reducible repeat (first | apply Kd.R_alloc | apply Kd.R_drewN | apply Kd.R_drew)); exact Kd.R_mono (Kd.R_far (p := ⟨gb257, 3, none⟩) (Kd.R_types HO263.out BK257.out (by decide)) (fun _ hk => hk.2) (.slice Ao21 t264.length co21)) (fun _ hk => ⟨hk.1.2, hk.1.1.2⟩)⟩
  have n1_ : Aside0 (Kd.R k45 45 (w20.setCell ⟨gb257, 3, none⟩ (.slice Ao21 t264.length co21)) w.heap.size (fun k_ => some k_ ≠ (.slice Ao19 t261.length co19 : Value).ownBlock ∧ k_ ≠ gb258) (.slice Ao21 t264.length co21) t264) := ⟨by (with_reducible repeat (first | apply Kd.R_alloc | apply Kd.R_drewN | apply Kd.R_drew)); exact Kd.R_mono (Kd.R_far (p := ⟨gb257, 3, none⟩) (Kd.R_types HO266.out BK257.out (by decide)) (fun _ hk => hk.2) (.slice Ao21 t264.length co21)) (fun _ hk => ⟨hk.1.1.2, hk.1.2⟩)⟩
  have n2_ : Aside0 ((w20.setCell ⟨gb257, 3, none⟩ (.slice Ao21 t264.length co21)).heap[gb257]? = some (.cells #[.int .i64 a0_0, .int .i64 a0_1, .slice A0_2 l0_2.length c0_2, .slice Ao21 t264.length co21] 28 (0, 0))) := ⟨by (with_reducible repeat (first | refine blk_drewN ?_ _ | refine blk_drew ?_ | refine blk_alloc ?_ _)); refine blk_put (cs := #[.int .i64 a0_0, .int .i64 a0_1, .slice A0_2 l0_2.length c0_2, .slice A0_3 l0_3.length c0_3]) ?_ 3 _ rfl; exact bk BK257.out⟩
  have n3_ : Aside0 ((w20.setCell ⟨gb257, 3, none⟩ (.slice Ao21 t264.length co21)).heap[gb258]? = some (.cells #[.string a1_0, .string a1_1] 45 (0, 0))) := ⟨by (with_reducible repeat (first | refine blk_drewN ?_ _ | refine blk_drew ?_ | refine blk_alloc ?_ _)); refine blk_far ?_ NB258_257.out _; exact bk BK258.out⟩
  have n4_ : Aside0 ((w20.setCell ⟨gb257, 3, none⟩ (.slice Ao21 t264.length co21)).heap[gb259]? = some (.cells #[.int .i64 0, .int .i64 0, .slice none 0 0, .slice none 0 0] 28 (0, 0))) := ⟨by (with_reducible repeat (first | refine blk_drewN ?_ _ | refine blk_drew ?_ | refine blk_alloc ?_ _)); refine blk_far ?_ NB259_257.out _; exact bk BK259.out⟩
  have n5_ : Aside0 (Below w.heap.size w (w20.setCell ⟨gb257, 3, none⟩ (.slice Ao21 t264.length co21))) := ⟨bl3 HB.out GE257.out GE258.out GE259.out⟩
  (try clear HO263)
  (try clear HO266)
  (try clear BK257)
  (try clear BK258)
  (try clear BK259)
  (try clear HB)
  generalize (w20.setCell ⟨gb257, 3, none⟩ (.slice Ao21 t264.length co21)) = w23 at n0_ n1_ n2_ n3_ n4_ n5_ ⊢
  have HO263 := n0_
  have HO266 := n1_
  have BK257 := n2_
  have BK258 := n3_
  have BK259 := n4_
  have HB := n5_
  clear n0_ n1_ n2_ n3_ n4_ n5_
  obtain ⟨hcz24_0, hcz24_1, hcz24_2, hcz24_3, hfz24_0, hfz24_1, hfz24_2, hfz24_3⟩ := b4 BK257.out
  try go_wp2_with (first | (refine gL 81 Try.func81 (some 23) #[.agg #[.int .i64 a0_0, .int .i64 a0_1, .slice A0_2 l0_2.length c0_2, .slice Ao21 t264.length co21]] ?_; (with_reducible refine (spec_l12Fit.calls k a0_0 a0_1 (fun k_ => k_ < w.heap.size) _ _ l0_2 (fun k_ => some k_ = (.slice Ao21 t264.length co21 : Value).ownBlock) _ _ t264 t267 t268 t269 t272 t275 _ ?side1 ?side2 A7.out).mono ?_); (case side1 => exact Kd.V_mk HC0_2.out (Kd.F_below (Kd.C_F k45_heap HR0_2.out) (bl3 HB.out GE257.out GE258.out GE259.out))); (case side2 => exact Kd.R_V (Kd.R_tight rfl (Kd.R_types (Kd.R_types (HO266.out) BK257.out (by decide)) BK259.out (by decide)))); rintro e w25 ⟨v270, v273, v276, rfl, ho0, ho1, ho2, hb⟩; refine ⟨_, rfl, ?_⟩; have HO271 := ak (Kd.R_lower (Kd.R_newB (Kd.R_new' (Kd.R_new' (Kd.R_mono (ok' := fun k_ => some k_ ≠ (v273 : Value).ownBlock ∧ some k_ ≠ (v276 : Value).ownBlock) ho0 (fun _ hk_ => hk_.2)) (Kd.R_lt (kr HO263.out))) (Kd.R_lt (kr HO266.out))) (bk BK258.out)) (below_size (bl3 HB.out GE257.out GE258.out GE259.out))); have HO274 := ak (Kd.R_lower (Kd.R_newB (Kd.R_new' (Kd.R_new' (Kd.R_mono (ok' := fun k_ => some k_ ≠ (v270 : Value).ownBlock ∧ some k_ ≠ (v276 : Value).ownBlock) ho1 (fun _ hk_ => hk_.2)) (Kd.R_lt (kr HO263.out))) (Kd.R_lt (kr HO266.out))) (bk BK258.out)) (below_size (bl3 HB.out GE257.out GE258.out GE259.out))); have HO277 := ak (Kd.R_lower (Kd.R_newB (Kd.R_new' (Kd.R_new' (Kd.R_mono (ok' := fun k_ => some k_ ≠ (v270 : Value).ownBlock ∧ some k_ ≠ (v273 : Value).ownBlock) ho2 (fun _ hk_ => hk_.2)) (Kd.R_lt (kr HO263.out))) (Kd.R_lt (kr HO266.out))) (bk BK258.out)) (below_size (bl3 HB.out GE257.out GE258.out GE259.out))); replace HO263 := ak (Kd.R_mono (Kd.R_told (Kd.R_told (Kd.R_told (Kd.R_old (kr HO263.out) hb) (Kd.R_base ho0)) (Kd.R_base ho1)) (Kd.R_base ho2)) (fun _ h_ => h_.1)); replace HO266 := ak (Kd.R_mono (Kd.R_told (Kd.R_told (Kd.R_told (Kd.R_old (kr HO266.out) hb) (Kd.R_base ho0)) (Kd.R_base ho1)) (Kd.R_base ho2)) (fun _ h_ => h_.1)); replace BK257 := ak (blk_below (bk BK257.out) hb); replace BK258 := ak (blk_below (bk BK258.out) hb); replace BK259 := ak (blk_below (bk BK259.out) hb); replace HB := ak (below_step (bl3 HB.out GE257.out GE258.out GE259.out) hb); clear hb ho0 ho1 ho2; obtain ⟨hcz26_0, hcz26_1, hcz26_2, hcz26_3, hfz26_0, hfz26_1, hfz26_2, hfz26_3⟩ := b4 BK259.out; obtain ⟨Ao27, co27, eo27⟩ := Kd.R_slice HO271.out; subst eo27; obtain ⟨Ao28, co28, eo28⟩ := Kd.R_slice HO274.out; subst eo28))
  refine bodyPost_ret (results_ct rfl _ _ gb259 28 #[.int .i64 t267, .int .i64 t268, .slice Ao27 t269.length co27, .slice Ao28 t272.length co28] (0, 0) _ rfl (bq BK259.out) Try.underlying28 rfl (by kernel_rfl)) rfl ?_
  exact ⟨_, _, _, by first | rfl | (simp [errW_none, errW_some] <;> rfl) | (simp [*, errW_none, errW_some] <;> rfl), by (with_reducible repeat (first | apply Kd.R_alloc | apply Kd.R_drewN | apply Kd.R_drew)); exact Kd.R_mono (Kd.R_far (p := ⟨gb259, 3, none⟩) (Kd.R_far (p := ⟨gb259, 2, none⟩) (Kd.R_far (p := ⟨gb259, 1, none⟩) (Kd.R_far (p := ⟨gb259, 0, none⟩) (Kd.R_types HO271.out BK259.out (by decide)) (fun _ hk => hk.2) (.int .i64 t267)) (fun _ hk => hk.2) (.int .i64 t268)) (fun _ hk => hk.2) (.slice Ao27 t269.length co27)) (fun _ hk => hk.2) (.slice Ao28 t272.length co28)) (fun _ hk => ⟨hk.1.1.1.1.1, hk.1.1.1.1.2⟩), by (with_reducible repeat (first | apply Kd.R_alloc | apply Kd.R_drewN | apply Kd.R_drew)); exact Kd.R_mono (Kd.R_far (p := ⟨gb259, 3, none⟩) (Kd.R_far (p := ⟨gb259, 2, none⟩) (Kd.R_far (p := ⟨gb259, 1, none⟩) (Kd.R_far (p := ⟨gb259, 0, none⟩) (Kd.R_types HO274.out BK259.out (by decide)) (fun _ hk => hk.2) (.int .i64 t267)) (fun _ hk => hk.2) (.int .i64 t268)) (fun _ hk => hk.2) (.slice Ao27 t269.length co27)) (fun _ hk => hk.2) (.slice Ao28 t272.length co28)) (fun _ hk => ⟨hk.1.1.1.1.1, hk.1.1.1.1.2⟩), by (with_reducible repeat (first | apply Kd.R_alloc | apply Kd.R_drewN | apply Kd.R_drew)); exact Kd.R_mono (Kd.R_far (p := ⟨gb259, 3, none⟩) (Kd.R_far (p := ⟨gb259, 2, none⟩) (Kd.R_far (p := ⟨gb259, 1, none⟩) (Kd.R_far (p := ⟨gb259, 0, none⟩) (Kd.R_types HO277.out BK259.out (by decide)) (fun _ hk => hk.2) (.int .i64 t267)) (fun _ hk => hk.2) (.int .i64 t268)) (fun _ hk => hk.2) (.slice Ao27 t269.length co27)) (fun _ hk => hk.2) (.slice Ao28 t272.length co28)) (fun _ hk => ⟨hk.1.1.1.1.1, hk.1.1.1.1.2⟩), bl3 HB.out GE257.out GE258.out GE259.out⟩
 ·rw [if_neg c4] at H
  have c4b0 : decide (0 ≤ t260) = false := decide_eq_false c4
  clear c4
  replace H := Option.bind_eq_some_iff.mp H
  obtain ⟨t278, A290, H⟩ := H
  try dsimp only at H
  have A29 := ak A290
  clear A290
  by_cases c30 : t278 ≥ 0
  ·rw [if_pos c30] at H
   have c30b0 : decide (0 ≤ t278) = true := decide_eq_true c30
   clear c30
   replace H := Option.bind_eq_some_iff.mp H
   obtain ⟨t279, A310, H⟩ := H
   try dsimp only at H
   have A31 := ak A310
   clear A310
   replace H := Option.bind_eq_some_iff.mp H
   obtain ⟨t282, A320, H⟩ := H
   try dsimp only at H
   have A32 := ak A320
   clear A320
   replace H := Option.bind_eq_some_iff.mp H
   obtain ⟨⟨t285, t286, t287, t290, t293⟩, A330, H⟩ := H
   try dsimp only at H
   have A33 := ak A330
   clear A330
   simp only [Option.some.injEq, Prod.mk.injEq] at H
   obtain ⟨rfl, rfl, rfl, rfl, rfl⟩ := H
   go_enter Try.func56, Try.ntmps56
   go_wp2_with (first | (refine bE 2 #[.int .i64 a0_0, .int .i64 a0_1, .slice A0_2 l0_2.length c0_2, .slice A0_3 l0_3.length c0_3] 28 ?_; intro gb257 hg w34 hbox hb; have BK257 := ak hbox; have GW257 := gs hg (bl HB.out); have GE257 := gs hg (bl HB.out); replace HB := ak (below_step (bl HB.out) hb); clear hb hbox hg) | (refine bE 3 #[.string a1_0, .string a1_1] 45 ?_; intro gb258 hg w35 hbox hb; have BK258 := ak hbox; have GW258 := gs hg (bl1 HB.out GE257.out); have GE258 := gs hg (bl1 HB.out GE257.out); replace HB := ak (below_step (bl1 HB.out GE257.out) hb); have NB257_258 := nl hg BK257.out; have NB258_257 := ng hg BK257.out; replace BK257 := ak (blk_below (bk BK257.out) hb); clear hb hbox hg) | (refine bE 4 #[.int .i64 0, .int .i64 0, .slice none 0 0, .slice none 0 0] 28 ?_; intro gb259 hg w36 hbox hb; have BK259 := ak hbox; have GW259 := gs hg (bl2 HB.out GE257.out GE258.out); have GE259 := gs hg (bl2 HB.out GE257.out GE258.out); replace HB := ak (below_step (bl2 HB.out GE257.out GE258.out) hb); have NB257_259 := nl hg BK257.out; have NB259_257 := ng hg BK257.out; replace BK257 := ak (blk_below (bk BK257.out) hb); have NB258_259 := nl hg BK258.out; have NB259_258 := ng hg BK258.out; replace BK258 := ak (blk_below (bk BK258.out) hb); clear hb hbox hg; have hnb37 := NB257_258.out; have hnc37 := NB258_257.out; have hnb38 := NB257_259.out; have hnc38 := NB259_257.out; obtain ⟨hcz39_0, hcz39_1, hcz39_2, hcz39_3, hfz39_0, hfz39_1, hfz39_2, hfz39_3⟩ := b4 BK257.out; have hnb40 := NB258_259.out; have hnc40 := NB259_258.out; obtain ⟨hcz41_0, hcz41_1, hfz41_0, hfz41_1⟩ := b2 BK258.out) | (refine gL 43 Try.func43 (some 12) #[.slice A0_3 l0_3.length c0_3, .string a1_0] ?_; (with_reducible refine (spec_l12At.calls k _ _ l0_3 a1_0 t260 _ ?side1 ?side2 A3.out).mono ?_); (case side1 => exact kc (Kd.C_below HR0_3.out HB.out)); (case side2 => exact HC0_3.out); rintro e w42 ⟨rfl, hb⟩; refine ⟨_, rfl, ?_⟩; replace BK257 := ak (blk_below (bk BK257.out) hb); replace BK258 := ak (blk_below (bk BK258.out) hb); replace BK259 := ak (blk_below (bk BK259.out) hb); replace HB := ak (below_step (bl3 HB.out GE257.out GE258.out GE259.out) hb); clear hb; obtain ⟨hcz43_0, hcz43_1, hcz43_2, hcz43_3, hfz43_0, hfz43_1, hfz43_2, hfz43_3⟩ := b4 BK257.out; obtain ⟨hcz44_0, hcz44_1, hfz44_0, hfz44_1⟩ := b2 BK258.out) | (refine gL 43 Try.func43 (some 30) #[.slice A0_2 l0_2.length c0_2, .string a1_0] ?_; (with_reducible refine (spec_l12At.calls k _ _ l0_2 a1_0 t278 _ ?side1 ?side2 A29.out).mono ?_); (case side1 => exact kc (Kd.C_below HR0_2.out HB.out)); (case side2 => exact HC0_2.out); rintro e w45 ⟨rfl, hb⟩; refine ⟨_, rfl, ?_⟩; replace BK257 := ak (blk_below (bk BK257.out) hb); replace BK258 := ak (blk_below (bk BK258.out) hb); replace BK259 := ak (blk_below (bk BK259.out) hb); replace HB := ak (below_step (bl3 HB.out GE257.out GE258.out GE259.out) hb); clear hb; obtain ⟨hcz46_0, hcz46_1, hcz46_2, hcz46_3, hfz46_0, hfz46_1, hfz46_2, hfz46_3⟩ := b4 BK257.out) | (refine gL 44 Try.func44 (some 36) #[.slice A0_2 l0_2.length c0_2, .int .i64 t278] ?_; (with_reducible refine (spec_l12Without.calls _ _ l0_2 t278 t279 _ ?side1 ?side2 A31.out).mono ?_); (case side1 => exact kc (Kd.C_below HR0_2.out HB.out)); (case side2 => exact HC0_2.out); rintro e w47 ⟨v280, rfl, ho0, hb⟩; refine ⟨_, rfl, ?_⟩; have HO281 := ak (Kd.R_lower (Kd.R_newB ho0 (bk BK258.out)) (below_size (bl3 HB.out GE257.out GE258.out GE259.out))); replace BK257 := ak (blk_below (bk BK257.out) hb); replace BK258 := ak (blk_below (bk BK258.out) hb); replace BK259 := ak (blk_below (bk BK259.out) hb); replace HB := ak (below_step (bl3 HB.out GE257.out GE258.out GE259.out) hb); clear hb ho0; obtain ⟨Ao48, co48, eo48⟩ := Kd.R_slice HO281.out; subst eo48; obtain ⟨hcz49_0, hcz49_1, hcz49_2, hcz49_3, hfz49_0, hfz49_1, hfz49_2, hfz49_3⟩ := b4 BK257.out; obtain ⟨hcz50_0, hcz50_1, hfz50_0, hfz50_1⟩ := b2 BK258.out) | (refine gL 80 Try.func80 (some 41) #[.slice Ao48 t279.length co48, .agg #[.string a1_0, .string a1_1]] ?_; (with_reducible refine (spec_l12Ahead.calls _ _ t279 a1_0 a1_1 t282 _ ?side1 ?side2 A32.out).mono ?_); (case side1 => refine (Kd.R_reads' (e := 45) (base := w.heap.size) (ok := fun k_ => (True ∧ k_ ≠ gb258)) (n := t279.length) (c := co48) ?_).2.2; exact (by (with_reducible repeat (first | apply Kd.R_alloc | apply Kd.R_drewN | apply Kd.R_drew)); exact (Kd.R_mono (Kd.R_far (p := ⟨gb257, 2, none⟩) (Kd.R_types HO281.out BK257.out (by decide)) (fun _ hk => hk.2) (.slice Ao48 t279.length co48)) (fun _ h_ => h_.1)))); (case side2 => exact (Kd.R_reads' HO281.out).2.1); rintro e w51 ⟨v283, rfl, ho0, hb⟩; refine ⟨_, rfl, ?_⟩; have HO284 := ak (Kd.R_lower (Kd.R_newB (Kd.R_new' ho0 (Kd.R_lt (by (with_reducible repeat (first | apply Kd.R_alloc | apply Kd.R_drewN | apply Kd.R_drew)); exact (Kd.R_mono (Kd.R_far (p := ⟨gb257, 2, none⟩) (Kd.R_types HO281.out BK257.out (by decide)) (fun _ hk => hk.2) (.slice Ao48 t279.length co48)) (fun _ h_ => h_.1))))) (g := gb258) (o := .cells #[.string a1_0, .string a1_1] 45 (0, 0)) (bq BK258.out)) (below_size (bl3 HB.out GE257.out GE258.out GE259.out))); replace HO281 := ak (Kd.R_elder' (by (with_reducible repeat (first | apply Kd.R_alloc | apply Kd.R_drewN | apply Kd.R_drew)); exact (Kd.R_mono (Kd.R_far (p := ⟨gb257, 2, none⟩) (Kd.R_types HO281.out BK257.out (by decide)) (fun _ hk => hk.2) (.slice Ao48 t279.length co48)) (fun _ h_ => h_.1))) (Kd.R_base ho0) hb); replace BK257 := ak (blk_below (g := gb257) (o := .cells #[.int .i64 a0_0, .int .i64 a0_1, .slice Ao48 t279.length co48, .slice A0_3 l0_3.length c0_3] 28 (0, 0)) (bq BK257.out) hb); replace BK258 := ak (blk_below (g := gb258) (o := .cells #[.string a1_0, .string a1_1] 45 (0, 0)) (bq BK258.out) hb); replace BK259 := ak (blk_below (g := gb259) (o := .cells #[.int .i64 0, .int .i64 0, .slice none 0 0, .slice none 0 0] 28 (0, 0)) (bq BK259.out) hb); replace HB := ak (below_step (bl3 HB.out GE257.out GE258.out GE259.out) hb); clear hb ho0; obtain ⟨Ao52, co52, eo52⟩ := Kd.R_slice HO284.out; subst eo52; obtain ⟨hcz53_0, hcz53_1, hcz53_2, hcz53_3, hfz53_0, hfz53_1, hfz53_2, hfz53_3⟩ := b4 BK257.out) | ((with_reducible refine gate_store (t := 26) (p := 42) rfl ?_); refine store_event (t := 26) (p := 42) (v := ?vo_w54) (w1 := (w51.setCell ⟨gb257, 2, none⟩ (.slice Ao52 t282.length co52))) ?hg ?ho ?hn ?hr ?_; (case ho => rfl); (case hg => rfl); (case hn => rfl); (case hr => first | (go_simp; done) | (go_simp; rfl)); intro w54 hw; replace HO281 : Aside0 (Kd.R k45 45 w54 w.heap.size (fun k_ => some k_ ≠ (.slice Ao52 t282.length co52 : Value).ownBlock ∧ k_ ≠ gb258) (.slice Ao48 t279.length co48) t279) := ⟨(by rw [hw]; exact (by (with_reducible repeat (first | apply Kd.R_alloc | apply Kd.R_drewN | apply Kd.R_drew)); exact Kd.R_mono (Kd.R_far (p := ⟨gb257, 2, none⟩) (Kd.R_types HO281.out BK257.out (by decide)) (fun _ hk => hk.2) (.slice Ao52 t282.length co52)) (fun _ hk => ⟨hk.1.2, hk.1.1.2⟩)))⟩; replace HO284 : Aside0 (Kd.R k45 45 w54 w.heap.size (fun k_ => some k_ ≠ (.slice Ao48 t279.length co48 : Value).ownBlock ∧ k_ ≠ gb258) (.slice Ao52 t282.length co52) t282) := ⟨(by rw [hw]; exact (by (with_reducible repeat (first | apply Kd.R_alloc | apply Kd.R_drewN | apply Kd.R_drew)); exact Kd.R_mono (Kd.R_far (p := ⟨gb257, 2, none⟩) (Kd.R_types HO284.out BK257.out (by decide)) (fun _ hk => hk.2) (.slice Ao52 t282.length co52)) (fun _ hk => ⟨hk.1.1.2, hk.1.2⟩)))⟩; replace BK257 : Aside0 (w54.heap[gb257]? = some (.cells #[.int .i64 a0_0, .int .i64 a0_1, .slice Ao52 t282.length co52, .slice A0_3 l0_3.length c0_3] 28 (0, 0))) := ⟨(by rw [hw]; exact (bq BK257.out))⟩; replace BK258 : Aside0 (w54.heap[gb258]? = some (.cells #[.string a1_0, .string a1_1] 45 (0, 0))) := ⟨(by rw [hw]; exact (bq BK258.out))⟩; replace BK259 : Aside0 (w54.heap[gb259]? = some (.cells #[.int .i64 0, .int .i64 0, .slice none 0 0, .slice none 0 0] 28 (0, 0))) := ⟨(by rw [hw]; exact (bq BK259.out))⟩; replace HB : Aside0 (Below w.heap.size w w54) := ⟨(by rw [hw]; exact (bl3 HB.out GE257.out GE258.out GE259.out))⟩; clear hw; obtain ⟨hcz55_0, hcz55_1, hcz55_2, hcz55_3, hfz55_0, hfz55_1, hfz55_2, hfz55_3⟩ := b4 BK257.out) | (refine gL 81 Try.func81 (some 44) #[.agg #[.int .i64 a0_0, .int .i64 a0_1, .slice Ao52 t282.length co52, .slice A0_3 l0_3.length c0_3]] ?_; (with_reducible refine (spec_l12Fit.calls k a0_0 a0_1 (fun k_ => some k_ = (.slice Ao52 t282.length co52 : Value).ownBlock) _ _ t282 (fun k_ => k_ < w.heap.size) _ _ l0_3 t285 t286 t287 t290 t293 _ ?side1 ?side2 A33.out).mono ?_); (case side1 => exact Kd.R_V (Kd.R_tight rfl (Kd.R_types (Kd.R_types (HO284.out) BK257.out (by decide)) BK259.out (by decide)))); (case side2 => exact Kd.V_mk HC0_3.out (Kd.F_below (Kd.C_F k45_heap HR0_3.out) (bl3 HB.out GE257.out GE258.out GE259.out))); rintro e w56 ⟨v288, v291, v294, rfl, ho0, ho1, ho2, hb⟩; refine ⟨_, rfl, ?_⟩; have HO289 := ak (Kd.R_lower (Kd.R_newB (Kd.R_new' (Kd.R_new' (Kd.R_mono (ok' := fun k_ => some k_ ≠ (v291 : Value).ownBlock ∧ some k_ ≠ (v294 : Value).ownBlock) ho0 (fun _ hk_ => hk_.2)) (Kd.R_lt (kr HO281.out))) (Kd.R_lt (kr HO284.out))) (bk BK258.out)) (below_size (bl3 HB.out GE257.out GE258.out GE259.out))); have HO292 := ak (Kd.R_lower (Kd.R_newB (Kd.R_new' (Kd.R_new' (Kd.R_mono (ok' := fun k_ => some k_ ≠ (v288 : Value).ownBlock ∧ some k_ ≠ (v294 : Value).ownBlock) ho1 (fun _ hk_ => hk_.2)) (Kd.R_lt (kr HO281.out))) (Kd.R_lt (kr HO284.out))) (bk BK258.out)) (below_size (bl3 HB.out GE257.out GE258.out GE259.out))); have HO295 := ak (Kd.R_lower (Kd.R_newB (Kd.R_new' (Kd.R_new' (Kd.R_mono (ok' := fun k_ => some k_ ≠ (v288 : Value).ownBlock ∧ some k_ ≠ (v291 : Value).ownBlock) ho2 (fun _ hk_ => hk_.2)) (Kd.R_lt (kr HO281.out))) (Kd.R_lt (kr HO284.out))) (bk BK258.out)) (below_size (bl3 HB.out GE257.out GE258.out GE259.out))); replace HO281 := ak (Kd.R_mono (Kd.R_told (Kd.R_told (Kd.R_told (Kd.R_old (kr HO281.out) hb) (Kd.R_base ho0)) (Kd.R_base ho1)) (Kd.R_base ho2)) (fun _ h_ => h_.1)); replace HO284 := ak (Kd.R_mono (Kd.R_told (Kd.R_told (Kd.R_told (Kd.R_old (kr HO284.out) hb) (Kd.R_base ho0)) (Kd.R_base ho1)) (Kd.R_base ho2)) (fun _ h_ => h_.1)); replace BK257 := ak (blk_below (bk BK257.out) hb); replace BK258 := ak (blk_below (bk BK258.out) hb); replace BK259 := ak (blk_below (bk BK259.out) hb); replace HB := ak (below_step (bl3 HB.out GE257.out GE258.out GE259.out) hb); clear hb ho0 ho1 ho2; obtain ⟨hcz57_0, hcz57_1, hcz57_2, hcz57_3, hfz57_0, hfz57_1, hfz57_2, hfz57_3⟩ := b4 BK259.out; obtain ⟨Ao58, co58, eo58⟩ := Kd.R_slice HO289.out; subst eo58; obtain ⟨Ao59, co59, eo59⟩ := Kd.R_slice HO292.out; subst eo59))
   refine bodyPost_ret (results_ct rfl _ _ gb259 28 #[.int .i64 t285, .int .i64 t286, .slice Ao58 t287.length co58, .slice Ao59 t290.length co59] (0, 0) _ rfl (bq BK259.out) Try.underlying28 rfl (by kernel_rfl)) rfl ?_
   exact ⟨_, _, _, by first | rfl | (simp [errW_none, errW_some] <;> rfl) | (simp [*, errW_none, errW_some] <;> rfl), by (with_reducible repeat (first | apply Kd.R_alloc | apply Kd.R_drewN | apply Kd.R_drew)); exact Kd.R_mono (Kd.R_far (p := ⟨gb259, 3, none⟩) (Kd.R_far (p := ⟨gb259, 2, none⟩) (Kd.R_far (p := ⟨gb259, 1, none⟩) (Kd.R_far (p := ⟨gb259, 0, none⟩) (Kd.R_types HO289.out BK259.out (by decide)) (fun _ hk => hk.2) (.int .i64 t285)) (fun _ hk => hk.2) (.int .i64 t286)) (fun _ hk => hk.2) (.slice Ao58 t287.length co58)) (fun _ hk => hk.2) (.slice Ao59 t290.length co59)) (fun _ hk => ⟨hk.1.1.1.1.1, hk.1.1.1.1.2⟩), by (with_reducible repeat (first | apply Kd.R_alloc | apply Kd.R_drewN | apply Kd.R_drew)); exact Kd.R_mono (Kd.R_far (p := ⟨gb259, 3, none⟩) (Kd.R_far (p := ⟨gb259, 2, none⟩) (Kd.R_far (p := ⟨gb259, 1, none⟩) (Kd.R_far (p := ⟨gb259, 0, none⟩) (Kd.R_types HO292.out BK259.out (by decide)) (fun _ hk => hk.2) (.int .i64 t285)) (fun _ hk => hk.2) (.int .i64 t286)) (fun _ hk => hk.2) (.slice Ao58 t287.length co58)) (fun _ hk => hk.2) (.slice Ao59 t290.length co59)) (fun _ hk => ⟨hk.1.1.1.1.1, hk.1.1.1.1.2⟩), by (with_reducible repeat (first | apply Kd.R_alloc | apply Kd.R_drewN | apply Kd.R_drew)); exact Kd.R_mono (Kd.R_far (p := ⟨gb259, 3, none⟩) (Kd.R_far (p := ⟨gb259, 2, none⟩) (Kd.R_far (p := ⟨gb259, 1, none⟩) (Kd.R_far (p := ⟨gb259, 0, none⟩) (Kd.R_types HO295.out BK259.out (by decide)) (fun _ hk => hk.2) (.int .i64 t285)) (fun _ hk => hk.2) (.int .i64 t286)) (fun _ hk => hk.2) (.slice Ao58 t287.length co58)) (fun _ hk => hk.2) (.slice Ao59 t290.length co59)) (fun _ hk => ⟨hk.1.1.1.1.1, hk.1.1.1.1.2⟩), bl3 HB.out GE257.out GE258.out GE259.out⟩
  ·rw [if_neg c30] at H
   have c30b0 : decide (0 ≤ t278) = false := decide_eq_false c30
   clear c30
   replace H := Option.bind_eq_some_iff.mp H
   obtain ⟨t296, A600, H⟩ := H
   try dsimp only at H
   have A60 := ak A600
   clear A600
   replace H := Option.bind_eq_some_iff.mp H
   obtain ⟨⟨t299, t300, t301, t304, t307⟩, A610, H⟩ := H
   try dsimp only at H
   have A61 := ak A610
   clear A610
   simp only [Option.some.injEq, Prod.mk.injEq] at H
   obtain ⟨rfl, rfl, rfl, rfl, rfl⟩ := H
   go_enter Try.func56, Try.ntmps56
   go_wp2_with (first | (refine bE 2 #[.int .i64 a0_0, .int .i64 a0_1, .slice A0_2 l0_2.length c0_2, .slice A0_3 l0_3.length c0_3] 28 ?_; intro gb257 hg w62 hbox hb; have BK257 := ak hbox; have GW257 := gs hg (bl HB.out); have GE257 := gs hg (bl HB.out); replace HB := ak (below_step (bl HB.out) hb); clear hb hbox hg) | (refine bE 3 #[.string a1_0, .string a1_1] 45 ?_; intro gb258 hg w63 hbox hb; have BK258 := ak hbox; have GW258 := gs hg (bl1 HB.out GE257.out); have GE258 := gs hg (bl1 HB.out GE257.out); replace HB := ak (below_step (bl1 HB.out GE257.out) hb); have NB257_258 := nl hg BK257.out; have NB258_257 := ng hg BK257.out; replace BK257 := ak (blk_below (bk BK257.out) hb); clear hb hbox hg) | (refine bE 4 #[.int .i64 0, .int .i64 0, .slice none 0 0, .slice none 0 0] 28 ?_; intro gb259 hg w64 hbox hb; have BK259 := ak hbox; have GW259 := gs hg (bl2 HB.out GE257.out GE258.out); have GE259 := gs hg (bl2 HB.out GE257.out GE258.out); replace HB := ak (below_step (bl2 HB.out GE257.out GE258.out) hb); have NB257_259 := nl hg BK257.out; have NB259_257 := ng hg BK257.out; replace BK257 := ak (blk_below (bk BK257.out) hb); have NB258_259 := nl hg BK258.out; have NB259_258 := ng hg BK258.out; replace BK258 := ak (blk_below (bk BK258.out) hb); clear hb hbox hg; have hnb65 := NB257_258.out; have hnc65 := NB258_257.out; have hnb66 := NB257_259.out; have hnc66 := NB259_257.out; obtain ⟨hcz67_0, hcz67_1, hcz67_2, hcz67_3, hfz67_0, hfz67_1, hfz67_2, hfz67_3⟩ := b4 BK257.out; have hnb68 := NB258_259.out; have hnc68 := NB259_258.out; obtain ⟨hcz69_0, hcz69_1, hfz69_0, hfz69_1⟩ := b2 BK258.out) | (refine gL 43 Try.func43 (some 12) #[.slice A0_3 l0_3.length c0_3, .string a1_0] ?_; (with_reducible refine (spec_l12At.calls k _ _ l0_3 a1_0 t260 _ ?side1 ?side2 A3.out).mono ?_); (case side1 => exact kc (Kd.C_below HR0_3.out HB.out)); (case side2 => exact HC0_3.out); rintro e w70 ⟨rfl, hb⟩; refine ⟨_, rfl, ?_⟩; replace BK257 := ak (blk_below (bk BK257.out) hb); replace BK258 := ak (blk_below (bk BK258.out) hb); replace BK259 := ak (blk_below (bk BK259.out) hb); replace HB := ak (below_step (bl3 HB.out GE257.out GE258.out GE259.out) hb); clear hb; obtain ⟨hcz71_0, hcz71_1, hcz71_2, hcz71_3, hfz71_0, hfz71_1, hfz71_2, hfz71_3⟩ := b4 BK257.out; obtain ⟨hcz72_0, hcz72_1, hfz72_0, hfz72_1⟩ := b2 BK258.out) | (refine gL 43 Try.func43 (some 30) #[.slice A0_2 l0_2.length c0_2, .string a1_0] ?_; (with_reducible refine (spec_l12At.calls k _ _ l0_2 a1_0 t278 _ ?side1 ?side2 A29.out).mono ?_); (case side1 => exact kc (Kd.C_below HR0_2.out HB.out)); (case side2 => exact HC0_2.out); rintro e w73 ⟨rfl, hb⟩; refine ⟨_, rfl, ?_⟩; replace BK257 := ak (blk_below (bk BK257.out) hb); replace BK258 := ak (blk_below (bk BK258.out) hb); replace BK259 := ak (blk_below (bk BK259.out) hb); replace HB := ak (below_step (bl3 HB.out GE257.out GE258.out GE259.out) hb); clear hb; obtain ⟨hcz74_0, hcz74_1, hcz74_2, hcz74_3, hfz74_0, hfz74_1, hfz74_2, hfz74_3⟩ := b4 BK257.out; obtain ⟨hcz75_0, hcz75_1, hfz75_0, hfz75_1⟩ := b2 BK258.out) | (refine gL 80 Try.func80 (some 41) #[.slice A0_2 l0_2.length c0_2, .agg #[.string a1_0, .string a1_1]] ?_; (with_reducible refine (spec_l12Ahead.calls _ _ l0_2 a1_0 a1_1 t296 _ ?side1 ?side2 A60.out).mono ?_); (case side1 => exact kc (Kd.C_below HR0_2.out HB.out)); (case side2 => exact HC0_2.out); rintro e w76 ⟨v297, rfl, ho0, hb⟩; refine ⟨_, rfl, ?_⟩; have HO298 := ak (Kd.R_lower (Kd.R_newB ho0 (bk BK258.out)) (below_size (bl3 HB.out GE257.out GE258.out GE259.out))); replace BK257 := ak (blk_below (bk BK257.out) hb); replace BK258 := ak (blk_below (bk BK258.out) hb); replace BK259 := ak (blk_below (bk BK259.out) hb); replace HB := ak (below_step (bl3 HB.out GE257.out GE258.out GE259.out) hb); clear hb ho0; obtain ⟨Ao77, co77, eo77⟩ := Kd.R_slice HO298.out; subst eo77; obtain ⟨hcz78_0, hcz78_1, hcz78_2, hcz78_3, hfz78_0, hfz78_1, hfz78_2, hfz78_3⟩ := b4 BK257.out) | ((with_reducible refine gate_store (t := 26) (p := 42) rfl ?_); refine store_event (t := 26) (p := 42) (v := ?vo_w79) (w1 := (w76.setCell ⟨gb257, 2, none⟩ (.slice Ao77 t296.length co77))) ?hg ?ho ?hn ?hr ?_; (case ho => rfl); (case hg => rfl); (case hn => rfl); (case hr => first | (go_simp; done) | (go_simp; rfl)); intro w79 hw; replace HO298 : Aside0 (Kd.R k45 45 w79 w.heap.size (fun k_ => k_ ≠ gb258) (.slice Ao77 t296.length co77) t296) := ⟨(by rw [hw]; exact (by (with_reducible repeat (first | apply Kd.R_alloc | apply Kd.R_drewN | apply Kd.R_drew)); exact Kd.R_mono (Kd.R_far (p := ⟨gb257, 2, none⟩) (Kd.R_types HO298.out BK257.out (by decide)) (fun _ hk => hk.2) (.slice Ao77 t296.length co77)) (fun _ hk => hk.1.2)))⟩; replace BK257 : Aside0 (w79.heap[gb257]? = some (.cells #[.int .i64 a0_0, .int .i64 a0_1, .slice Ao77 t296.length co77, .slice A0_3 l0_3.length c0_3] 28 (0, 0))) := ⟨(by rw [hw]; exact (bq BK257.out))⟩; replace BK258 : Aside0 (w79.heap[gb258]? = some (.cells #[.string a1_0, .string a1_1] 45 (0, 0))) := ⟨(by rw [hw]; exact (bq BK258.out))⟩; replace BK259 : Aside0 (w79.heap[gb259]? = some (.cells #[.int .i64 0, .int .i64 0, .slice none 0 0, .slice none 0 0] 28 (0, 0))) := ⟨(by rw [hw]; exact (bq BK259.out))⟩; replace HB : Aside0 (Below w.heap.size w w79) := ⟨(by rw [hw]; exact (bl3 HB.out GE257.out GE258.out GE259.out))⟩; clear hw; obtain ⟨hcz80_0, hcz80_1, hcz80_2, hcz80_3, hfz80_0, hfz80_1, hfz80_2, hfz80_3⟩ := b4 BK257.out) | (refine gL 81 Try.func81 (some 44) #[.agg #[.int .i64 a0_0, .int .i64 a0_1, .slice Ao77 t296.length co77, .slice A0_3 l0_3.length c0_3]] ?_; (with_reducible refine (spec_l12Fit.calls k a0_0 a0_1 (fun k_ => some k_ = (.slice Ao77 t296.length co77 : Value).ownBlock) _ _ t296 (fun k_ => k_ < w.heap.size) _ _ l0_3 t299 t300 t301 t304 t307 _ ?side1 ?side2 A61.out).mono ?_); (case side1 => exact Kd.R_V (Kd.R_tight rfl (Kd.R_types (Kd.R_types (HO298.out) BK257.out (by decide)) BK259.out (by decide)))); (case side2 => exact Kd.V_mk HC0_3.out (Kd.F_below (Kd.C_F k45_heap HR0_3.out) (bl3 HB.out GE257.out GE258.out GE259.out))); rintro e w81 ⟨v302, v305, v308, rfl, ho0, ho1, ho2, hb⟩; refine ⟨_, rfl, ?_⟩; have HO303 := ak (Kd.R_lower (Kd.R_newB (Kd.R_new' (Kd.R_mono (ok' := fun k_ => some k_ ≠ (v305 : Value).ownBlock ∧ some k_ ≠ (v308 : Value).ownBlock) ho0 (fun _ hk_ => hk_.2)) (Kd.R_lt (kr HO298.out))) (bk BK258.out)) (below_size (bl3 HB.out GE257.out GE258.out GE259.out))); have HO306 := ak (Kd.R_lower (Kd.R_newB (Kd.R_new' (Kd.R_mono (ok' := fun k_ => some k_ ≠ (v302 : Value).ownBlock ∧ some k_ ≠ (v308 : Value).ownBlock) ho1 (fun _ hk_ => hk_.2)) (Kd.R_lt (kr HO298.out))) (bk BK258.out)) (below_size (bl3 HB.out GE257.out GE258.out GE259.out))); have HO309 := ak (Kd.R_lower (Kd.R_newB (Kd.R_new' (Kd.R_mono (ok' := fun k_ => some k_ ≠ (v302 : Value).ownBlock ∧ some k_ ≠ (v305 : Value).ownBlock) ho2 (fun _ hk_ => hk_.2)) (Kd.R_lt (kr HO298.out))) (bk BK258.out)) (below_size (bl3 HB.out GE257.out GE258.out GE259.out))); replace HO298 := ak (Kd.R_mono (Kd.R_told (Kd.R_told (Kd.R_told (Kd.R_old (kr HO298.out) hb) (Kd.R_base ho0)) (Kd.R_base ho1)) (Kd.R_base ho2)) (fun _ h_ => h_.1)); replace BK257 := ak (blk_below (bk BK257.out) hb); replace BK258 := ak (blk_below (bk BK258.out) hb); replace BK259 := ak (blk_below (bk BK259.out) hb); replace HB := ak (below_step (bl3 HB.out GE257.out GE258.out GE259.out) hb); clear hb ho0 ho1 ho2; obtain ⟨hcz82_0, hcz82_1, hcz82_2, hcz82_3, hfz82_0, hfz82_1, hfz82_2, hfz82_3⟩ := b4 BK259.out; obtain ⟨Ao83, co83, eo83⟩ := Kd.R_slice HO303.out; subst eo83; obtain ⟨Ao84, co84, eo84⟩ := Kd.R_slice HO306.out; subst eo84))
   refine bodyPost_ret (results_ct rfl _ _ gb259 28 #[.int .i64 t299, .int .i64 t300, .slice Ao83 t301.length co83, .slice Ao84 t304.length co84] (0, 0) _ rfl (bq BK259.out) Try.underlying28 rfl (by kernel_rfl)) rfl ?_
   exact ⟨_, _, _, by first | rfl | (simp [errW_none, errW_some] <;> rfl) | (simp [*, errW_none, errW_some] <;> rfl), by (with_reducible repeat (first | apply Kd.R_alloc | apply Kd.R_drewN | apply Kd.R_drew)); exact Kd.R_mono (Kd.R_far (p := ⟨gb259, 3, none⟩) (Kd.R_far (p := ⟨gb259, 2, none⟩) (Kd.R_far (p := ⟨gb259, 1, none⟩) (Kd.R_far (p := ⟨gb259, 0, none⟩) (Kd.R_types HO303.out BK259.out (by decide)) (fun _ hk => hk.2) (.int .i64 t299)) (fun _ hk => hk.2) (.int .i64 t300)) (fun _ hk => hk.2) (.slice Ao83 t301.length co83)) (fun _ hk => hk.2) (.slice Ao84 t304.length co84)) (fun _ hk => ⟨hk.1.1.1.1, hk.1.1.1.2⟩), by (with_reducible repeat (first | apply Kd.R_alloc | apply Kd.R_drewN | apply Kd.R_drew)); exact Kd.R_mono (Kd.R_far (p := ⟨gb259, 3, none⟩) (Kd.R_far (p := ⟨gb259, 2, none⟩) (Kd.R_far (p := ⟨gb259, 1, none⟩) (Kd.R_far (p := ⟨gb259, 0, none⟩) (Kd.R_types HO306.out BK259.out (by decide)) (fun _ hk => hk.2) (.int .i64 t299)) (fun _ hk => hk.2) (.int .i64 t300)) (fun _ hk => hk.2) (.slice Ao83 t301.length co83)) (fun _ hk => hk.2) (.slice Ao84 t304.length co84)) (fun _ hk => ⟨hk.1.1.1.1, hk.1.1.1.2⟩), by (with_reducible repeat (first | apply Kd.R_alloc | apply Kd.R_drewN | apply Kd.R_drew)); exact Kd.R_mono (Kd.R_far (p := ⟨gb259, 3, none⟩) (Kd.R_far (p := ⟨gb259, 2, none⟩) (Kd.R_far (p := ⟨gb259, 1, none⟩) (Kd.R_far (p := ⟨gb259, 0, none⟩) (Kd.R_types HO309.out BK259.out (by decide)) (fun _ hk => hk.2) (.int .i64 t299)) (fun _ hk => hk.2) (.int .i64 t300)) (fun _ hk => hk.2) (.slice Ao83 t301.length co83)) (fun _ hk => hk.2) (.slice Ao84 t304.length co84)) (fun _ hk => ⟨hk.1.1.1.1, hk.1.1.1.2⟩), bl3 HB.out GE257.out GE258.out GE259.out⟩

end Go.Proofs.Ytfopmaiednikhaa.PFnParts
