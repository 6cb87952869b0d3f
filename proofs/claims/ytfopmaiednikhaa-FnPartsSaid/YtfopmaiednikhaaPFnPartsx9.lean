-- written by a program of this session (wip/tool)
import Derived.Test.YtfopmaiednikhaaPFnPartsx0
import Derived.Test.YtfopmaiednikhaaPFnPartsx4
import Derived.Test.YtfopmaiednikhaaPFnPartsx5
import Derived.Test.YtfopmaiednikhaaPFnPartsx6
import Derived.Test.YtfopmaiednikhaaPFnPartsx8
import Derived.Test.YtfopmaiednikhaaVOwn0
import Derived.Test.YtfopmaiednikhaaVOwnOpen
import Derived.WalkKit
import Derived.BigCall
import Derived.Lib.SliceRun
import Derived.Deep.RegionLaw
import Derived.Maps.OwnSet
import Derived.Maps.OwnOps
import Derived.Maps.Views
import Derived.Test.YtfopmaiednikhaaVWZeros
import Derived.Test.YtfopmaiednikhaaVWArr
import Derived.Test.YtfopmaiednikhaaVOwnShort
import Derived.Test.YtfopmaiednikhaaOwnSq
namespace Go.Proofs.Ytfopmaiednikhaa.PFnParts
open Go.RowKit Go.Proofs.YtfopmaiednikhaaW.PrintWords Go.Proofs.YtfopmaiednikhaaW.PrintLast Go.Proofs.YtfopmaiednikhaaW.PrintMore Go.Shelf Go.Proofs.YtfopmaiednikhaaOwn
attribute [local go_sem] max2_int min2_int max_two min_two max_three min_three max_four min_four   -- for this text's walks alone
set_option linter.unusedVariables false
set_option linter.unusedSimpArgs false

/-! ### spec_PutEntry: function 25 -/
def spec_PutEntry.j0 : Nat → Bool → Int → Int → List (S45) → List (S45) → ByteArray → ByteArray → Option (Int × Int × (List (S45)) × (List (S45)) × (List (S45)) × Bool)
 | 0, _, _, _, _, _, _, _ => none
 | k + 1, x16, x311000, x311001, x311002, x311003, x312000, x312001 => if x16 = true then (some (0, 0, ([] : List (S45)), ([] : List (S45)), ([] : List (S45)), false)) else ((spec_l12Own.f x311000 x311001 x311002 x311003).bind fun bt315 => ((spec_l12Put.f k bt315.1 bt315.2.1 bt315.2.2.1 bt315.2.2.2 x312000 x312001).bind fun bt323 => (some (bt323.1, bt323.2.1, bt323.2.2.1, bt323.2.2.2.1, bt323.2.2.2.2, true))))
def spec_PutEntry.f (k : Nat) (a0_0 : Int) (a0_1 : Int) (l0_2 : List (S45)) (l0_3 : List (S45)) (a1_0 : ByteArray) (a1_1 : ByteArray) : Option (Int × Int × (List (S45)) × (List (S45)) × (List (S45)) × Bool) := (spec_GoodSegmented.f k a0_0 a0_1 l0_2 l0_3).bind fun t313 => (if t313 = true then ((spec_l12Entry.f a1_0 a1_1).bind fun t314 => (spec_PutEntry.j0 k (!t314) a0_0 a0_1 l0_2 l0_3 a1_0 a1_1)) else (spec_PutEntry.j0 k true a0_0 a0_1 l0_2 l0_3 a1_0 a1_1))
theorem spec_PutEntry.mono_l : ∀ k, (∀ y0 y1 y2 y3 y4 y5 y6, LeO (spec_PutEntry.j0 k y0 y1 y2 y3 y4 y5 y6) (spec_PutEntry.j0 (k + 1) y0 y1 y2 y3 y4 y5 y6))
 | 0 => fun _ _ _ _ _ _ _ r h => by simp [spec_PutEntry.j0] at h
 | k + 1 => by
  have ih0 := spec_PutEntry.mono_l k
  ·intro y0 y1 y2 y3 y4 y5 y6
   unfold spec_PutEntry.j0
   repeat' first
   | (with_reducible exact ih0 _ _ _ _ _ _ _)
   | (with_reducible exact spec_GoodSegmented.mono _ _ _ _ _)
   | (with_reducible exact spec_l12Put.mono _ _ _ _ _ _ _)
   | (with_reducible exact LeO.refl _)
   | (with_reducible exact LeO.none _)
   | (with_reducible refine LeO.ite ?_ ?_)
   | (with_reducible refine LeO.bind ?_ (fun _ => ?_))
   | exact ih0 _ _ _ _ _ _ _
   | exact spec_GoodSegmented.mono _ _ _ _ _
   | exact spec_l12Put.mono _ _ _ _ _ _ _
   | exact LeO.none _
   | refine LeO.ite ?_ ?_
   | refine LeO.bind ?_ (fun _ => ?_)
theorem spec_PutEntry.mono : ∀ a0 a1 a2 a3 a4 a5 k, LeO (spec_PutEntry.f k a0 a1 a2 a3 a4 a5) (spec_PutEntry.f (k + 1) a0 a1 a2 a3 a4 a5) := by
 intro a0 a1 a2 a3 a4 a5 k
 have ih0 := spec_PutEntry.mono_l k
 unfold spec_PutEntry.f
 repeat' first
   | (with_reducible exact ih0 _ _ _ _ _ _ _)
   | (with_reducible exact spec_GoodSegmented.mono _ _ _ _ _)
   | (with_reducible exact spec_l12Put.mono _ _ _ _ _ _ _)
   | (with_reducible exact LeO.refl _)
   | (with_reducible exact LeO.none _)
   | (with_reducible refine LeO.ite ?_ ?_)
   | (with_reducible refine LeO.bind ?_ (fun _ => ?_))
   | exact ih0 _ _ _ _ _ _ _
   | exact spec_GoodSegmented.mono _ _ _ _ _
   | exact spec_l12Put.mono _ _ _ _ _ _ _
   | exact LeO.none _
   | refine LeO.ite ?_ ?_
   | refine LeO.bind ?_ (fun _ => ?_)
def spec_PutEntry.T3 : Bool × List (List Nat × List Nat) := (true, [([], []), ([0], [0]), ([], []), ([1, 2, 1], [1, 2]), ([3], [3]), ([4], [4]), ([4], [4]), ([], []), ([7, 5, 3, 0, 1, 2, 3, 4, 5, 7], [5, 7]), ([6, 8, 0, 1, 2, 3, 4, 5, 6, 7, 8], [6])])
def spec_PutEntry.B3 : List Nat := [0, 1, 0, 7, 15, 31, 31, 0, 191, 511]
theorem spec_PutEntry.tab3 : rtab .any (opsOf Try.f25 3) = spec_PutEntry.T3 := by kernel_rfl
theorem spec_PutEntry.bits3 : waitsOk spec_PutEntry.T3.2 spec_PutEntry.B3 = true := by kernel_rfl
set_option maxHeartbeats 8000000 in
set_option maxRecDepth 100000 in
theorem spec_PutEntry.calls (k : Nat) (a0_0 : Int) (a0_1 : Int) (A0_2 : Option Addr) (c0_2 : Nat) (l0_2 : List (S45)) (A0_3 : Option Addr) (c0_3 : Nat) (l0_3 : List (S45)) (a1_0 : ByteArray) (a1_1 : ByteArray) (r1 : Int) (r2 : Int) (r3 : List (S45)) (r4 : List (S45)) (r5 : List (S45)) (r6 : Bool) (w : World) (hr0_2 : Kd.C k45 w A0_2 l0_2.length l0_2) (hc0_2 : l0_2.length ≤ c0_2) (hr0_3 : Kd.C k45 w A0_3 l0_3.length l0_3) (hc0_3 : l0_3.length ≤ c0_3) (h : spec_PutEntry.f k a0_0 a0_1 l0_2 l0_3 a1_0 a1_1 = some (r1, r2, r3, r4, r5, r6)) :
  Calls Try.prog 25 #[.agg #[.int .i64 a0_0, .int .i64 a0_1, .slice A0_2 l0_2.length c0_2, .slice A0_3 l0_3.length c0_3], .agg #[.string a1_0, .string a1_1]] w fun e w' => ∃ v2_ v3_ v4_ : Value, e = .returned (.tuple #[.agg #[.int .i64 r1, .int .i64 r2, v2_, v3_], v4_, .bool r6]) ∧ Kd.R k45 45 w' w.heap.size (fun k_ => some k_ ≠ (v3_ : Value).ownBlock ∧ some k_ ≠ (v4_ : Value).ownBlock) v2_ r3 ∧ Kd.R k45 45 w' w.heap.size (fun k_ => some k_ ≠ (v2_ : Value).ownBlock ∧ some k_ ≠ (v4_ : Value).ownBlock) v3_ r4 ∧ Kd.R k45 45 w' w.heap.size (fun k_ => some k_ ≠ (v2_ : Value).ownBlock ∧ some k_ ≠ (v3_ : Value).ownBlock) v4_ r5 ∧ Below w.heap.size w w' := by
 have hu28 := Try.underlying28
 have hu45 := Try.underlying45
 have HR0_2 := ak hr0_2
 have HC0_2 := ak hc0_2
 clear hr0_2 hc0_2
 have HR0_3 := ak hr0_3
 have HC0_3 := ak hc0_3
 clear hr0_3 hc0_3
 have HB := ak (Below.refl w.heap.size w)
 have H : ((spec_GoodSegmented.f k a0_0 a0_1 l0_2 l0_3).bind fun t313 => (if t313 = true then ((spec_l12Entry.f a1_0 a1_1).bind fun t314 => (spec_PutEntry.j0 k (!t314) a0_0 a0_1 l0_2 l0_3 a1_0 a1_1)) else (spec_PutEntry.j0 k true a0_0 a0_1 l0_2 l0_3 a1_0 a1_1))) = some (r1, r2, r3, r4, r5, r6) := h
 clear h
 have HC3 := ak H
 clear H
 go_enter Try.func25, Try.ntmps25
 go_upto_region 1 with (first | (refine bE 2 #[.int .i64 a0_0, .int .i64 a0_1, .slice A0_2 l0_2.length c0_2, .slice A0_3 l0_3.length c0_3] 28 ?_; intro gb310 hg w4 hbox hb; have BK310 := ak hbox; have GW310 := gs hg (bl HB.out); have GE310 := gs hg (bl HB.out); replace HB := ak (below_step (bl HB.out) hb); clear hb hbox hg) | (refine bE 3 #[.string a1_0, .string a1_1] 45 ?_; intro gb311 hg w5 hbox hb; have BK311 := ak hbox; have GW311 := gs hg (bl1 HB.out GE310.out); have GE311 := gs hg (bl1 HB.out GE310.out); replace HB := ak (below_step (bl1 HB.out GE310.out) hb); have NB310_311 := nl hg BK310.out; have NB311_310 := ng hg BK310.out; replace BK310 := ak (blk_below (bk BK310.out) hb); clear hb hbox hg) | (refine bE 4 #[.int .i64 0, .int .i64 0, .slice none 0 0, .slice none 0 0] 28 ?_; intro gb312 hg w6 hbox hb; have BK312 := ak hbox; have GW312 := gs hg (bl2 HB.out GE310.out GE311.out); have GE312 := gs hg (bl2 HB.out GE310.out GE311.out); replace HB := ak (below_step (bl2 HB.out GE310.out GE311.out) hb); have NB310_312 := nl hg BK310.out; have NB312_310 := ng hg BK310.out; replace BK310 := ak (blk_below (bk BK310.out) hb); have NB311_312 := nl hg BK311.out; have NB312_311 := ng hg BK311.out; replace BK311 := ak (blk_below (bk BK311.out) hb); clear hb hbox hg))
 (try simp only [Act.put, List.setIfInBounds_toArray, List.set_cons_zero, List.set_cons_succ])
 go_cut [16] (fun v16 wc => ∃ (kq : Nat) (x16_2 : Bool), v16 = .bool x16_2 ∧ Aside0 (spec_PutEntry.j0 kq x16_2 a0_0 a0_1 l0_2 l0_3 a1_0 a1_1 = some (r1, r2, r3, r4, r5, r6)) ∧ Aside0 (kq ≤ k) ∧ Aside0 (wc.heap[gb310]? = some (.cells #[.int .i64 a0_0, .int .i64 a0_1, (.slice A0_2 l0_2.length c0_2), (.slice A0_3 l0_3.length c0_3)] 28 (0, 0))) ∧ Aside0 (wc.heap[gb311]? = some (.cells #[.string a1_0, .string a1_1] 45 (0, 0))) ∧ Aside0 (wc.heap[gb312]? = some (.cells #[.int .i64 0, .int .i64 0, (.slice none 0 0), (.slice none 0 0)] 28 (0, 0))) ∧ Aside0 (Below w.heap.size w wc))
 case first =>
  have H := HC3.out
  clear HC3
  replace H := Option.bind_eq_some_iff.mp H
  obtain ⟨t313, A70, H⟩ := H
  try dsimp only at H
  have A7 := ak A70
  clear A70
  by_cases c8 : t313 = true
  ·subst c8
   have H1 : ((spec_l12Entry.f a1_0 a1_1).bind fun t314 => (spec_PutEntry.j0 k (!t314) a0_0 a0_1 l0_2 l0_3 a1_0 a1_1)) = some (r1, r2, r3, r4, r5, r6) := by rw [if_pos rfl] at H; exact H
   clear H
   have H := H1
   clear H1
   replace H := Option.bind_eq_some_iff.mp H
   obtain ⟨t314, A90, H⟩ := H
   try dsimp only at H
   have A9 := ak A90
   clear A90
   have H' := ak H
   clear H
   have hnb10 := NB310_311.out
   have hnc10 := NB311_310.out
   have hnb11 := NB310_312.out
   have hnc11 := NB312_310.out
   obtain ⟨hcz12_0, hcz12_1, hcz12_2, hcz12_3, hfz12_0, hfz12_1, hfz12_2, hfz12_3⟩ := b4 BK310.out
   go_wp2_with (first | (refine gL 41 Try.func41 (some 10) #[.agg #[.int .i64 a0_0, .int .i64 a0_1, .slice A0_2 l0_2.length c0_2, .slice A0_3 l0_3.length c0_3]] ?_; (with_reducible refine (spec_GoodSegmented.calls k a0_0 a0_1 _ _ l0_2 _ _ l0_3 true _ ?side1 ?side2 ?side3 ?side4 A7.out).mono ?_); (case side1 => exact kc (Kd.C_below HR0_2.out HB.out)); (case side2 => exact HC0_2.out); (case side3 => exact kc (Kd.C_below HR0_3.out HB.out)); (case side4 => exact HC0_3.out); rintro e w13 ⟨rfl, hb⟩; refine ⟨_, rfl, ?_⟩; replace BK310 := ak (blk_below (bk BK310.out) hb); replace BK311 := ak (blk_below (bk BK311.out) hb); replace BK312 := ak (blk_below (bk BK312.out) hb); replace HB := ak (below_step (bl3 HB.out GE310.out GE311.out GE312.out) hb); clear hb; have hnb14 := NB311_312.out; have hnc14 := NB312_311.out; obtain ⟨hcz15_0, hcz15_1, hfz15_0, hfz15_1⟩ := b2 BK311.out) | (go_at_call 55; (with_reducible refine (spec_l12Entry.calls a1_0 a1_1 t314 _ A9.out).mono ?_); rintro e w16 ⟨rfl, hb⟩; replace BK310 := ak (blk_below (bk BK310.out) hb); replace BK311 := ak (blk_below (bk BK311.out) hb); replace BK312 := ak (blk_below (bk BK312.out) hb); replace HB := ak (below_step (bl3 HB.out GE310.out GE311.out GE312.out) hb); clear hb))
   go_meet
   case rel => exact ⟨_, (!t314), (by first | rfl | (simp; done) | (simp [*]; done)), H', ⟨by first | omega | exact Nat.le_refl _⟩, ⟨bk BK310.out⟩, ⟨bk BK311.out⟩, ⟨bk BK312.out⟩, ⟨bl3 HB.out GE310.out GE311.out GE312.out⟩⟩
  ·replace c8 := Bool.eq_false_iff.mpr c8
   subst c8
   have H1 : (spec_PutEntry.j0 k true a0_0 a0_1 l0_2 l0_3 a1_0 a1_1) = some (r1, r2, r3, r4, r5, r6) := by rw [if_neg (show ¬ (false = true) by decide)] at H; exact H
   clear H
   have H := H1
   clear H1
   have H' := ak H
   clear H
   have hnb17 := NB310_311.out
   have hnc17 := NB311_310.out
   have hnb18 := NB310_312.out
   have hnc18 := NB312_310.out
   obtain ⟨hcz19_0, hcz19_1, hcz19_2, hcz19_3, hfz19_0, hfz19_1, hfz19_2, hfz19_3⟩ := b4 BK310.out
   go_wp2_with (first | (refine gL 41 Try.func41 (some 10) #[.agg #[.int .i64 a0_0, .int .i64 a0_1, .slice A0_2 l0_2.length c0_2, .slice A0_3 l0_3.length c0_3]] ?_; (with_reducible refine (spec_GoodSegmented.calls k a0_0 a0_1 _ _ l0_2 _ _ l0_3 false _ ?side1 ?side2 ?side3 ?side4 A7.out).mono ?_); (case side1 => exact kc (Kd.C_below HR0_2.out HB.out)); (case side2 => exact HC0_2.out); (case side3 => exact kc (Kd.C_below HR0_3.out HB.out)); (case side4 => exact HC0_3.out); rintro e w20 ⟨rfl, hb⟩; refine ⟨_, rfl, ?_⟩; replace BK310 := ak (blk_below (bk BK310.out) hb); replace BK311 := ak (blk_below (bk BK311.out) hb); replace BK312 := ak (blk_below (bk BK312.out) hb); replace HB := ak (below_step (bl3 HB.out GE310.out GE311.out GE312.out) hb); clear hb))
   go_meet
   case rel => exact ⟨_, (true), (by first | rfl | (simp; done) | (simp [*]; done)), H', ⟨by first | omega | exact Nat.le_refl _⟩, ⟨bk BK310.out⟩, ⟨bk BK311.out⟩, ⟨bk BK312.out⟩, ⟨bl3 HB.out GE310.out GE311.out GE312.out⟩⟩
 case rest =>
  clear HC3
  try clear c1
  try clear c2
  try clear p2
  try clear c4
  try clear c8
  try clear c10
  try clear c11
  try clear c14
  try clear c17
  try clear c18
  try clear hcz12_0
  try clear hcz12_1
  try clear hcz12_2
  try clear hcz12_3
  try clear hcz15_0
  try clear hcz15_1
  try clear hcz19_0
  try clear hcz19_1
  try clear hcz19_2
  try clear hcz19_3
  try clear hfz12_0
  try clear hfz12_1
  try clear hfz12_2
  try clear hfz12_3
  try clear hfz15_0
  try clear hfz15_1
  try clear hfz19_0
  try clear hfz19_1
  try clear hfz19_2
  try clear hfz19_3
  obtain ⟨kq, x16_2, rfl, HA, HJ2, BK310, BK311, BK312, HB⟩ := hcut
  cases kq with
  | zero => exact absurd HA.out (by simp [spec_PutEntry.j0])
  | succ kj2 =>
   have H := HA.out
   clear HA
   simp only [spec_PutEntry.j0] at H
   by_cases c21 : x16_2 = true
   ·subst c21
    have H1 : (some (0, 0, ([] : List (S45)), ([] : List (S45)), ([] : List (S45)), false)) = some (r1, r2, r3, r4, r5, r6) := by rw [if_pos rfl] at H; exact H
    clear H
    have H := H1
    clear H1
    simp only [Option.some.injEq, Prod.mk.injEq] at H
    obtain ⟨rfl, rfl, rfl, rfl, rfl, rfl⟩ := H
    have hnb22 := NB312_310.out
    have hnc22 := NB310_312.out
    have hnb23 := NB312_311.out
    have hnc23 := NB311_312.out
    obtain ⟨hcz24_0, hcz24_1, hcz24_2, hcz24_3, hfz24_0, hfz24_1, hfz24_2, hfz24_3⟩ := b4 BK312.out
    go_wp2
    refine bodyPost_ret (results_ctt rfl _ _ gb312 28 #[.int .i64 0, .int .i64 0, .slice none 0 0, .slice none 0 0] (0, 0) _ rfl (bq BK312.out) Try.underlying28 rfl (by kernel_rfl)) rfl ?_
    exact ⟨_, _, _, by first | rfl | (simp [errW_none, errW_some] <;> rfl) | (simp [*, errW_none, errW_some] <;> rfl), by first | exact Kd.R_nil _ _ _ _ _ | exact Kd.N_nil _ _ _ _ _ | exact Kd.V_nil _ _ _ _ _ | exact Kd.Q_nil _ _ _ _ _ | exact Kd.S_nil _ _ _ _ _, by first | exact Kd.R_nil _ _ _ _ _ | exact Kd.N_nil _ _ _ _ _ | exact Kd.V_nil _ _ _ _ _ | exact Kd.Q_nil _ _ _ _ _ | exact Kd.S_nil _ _ _ _ _, by first | exact Kd.R_nil _ _ _ _ _ | exact Kd.N_nil _ _ _ _ _ | exact Kd.V_nil _ _ _ _ _ | exact Kd.Q_nil _ _ _ _ _ | exact Kd.S_nil _ _ _ _ _, bl3 HB.out GE310.out GE311.out GE312.out⟩
   ·replace c21 := Bool.eq_false_iff.mpr c21
    subst c21
    have H1 : ((spec_l12Own.f a0_0 a0_1 l0_2 l0_3).bind fun bt315 => ((spec_l12Put.f kj2 bt315.1 bt315.2.1 bt315.2.2.1 bt315.2.2.2 a1_0 a1_1).bind fun bt323 => (some (bt323.1, bt323.2.1, bt323.2.2.1, bt323.2.2.2.1, bt323.2.2.2.2, true)))) = some (r1, r2, r3, r4, r5, r6) := by rw [if_neg (show ¬ (false = true) by decide)] at H; exact H
    clear H
    have H := H1
    clear H1
    replace H := Option.bind_eq_some_iff.mp H
    obtain ⟨⟨t315, t316, t317, t320⟩, A250, H⟩ := H
    try dsimp only at H
    have A25 := ak A250
    clear A250
    replace H := Option.bind_eq_some_iff.mp H
    obtain ⟨⟨t323, t324, t325, t328, t331⟩, A260, H⟩ := H
    try dsimp only at H
    have A26 := ak A260
    clear A260
    simp only [Option.some.injEq, Prod.mk.injEq] at H
    obtain ⟨rfl, rfl, rfl, rfl, rfl, rfl⟩ := H
    try go_wp2
    replace BK310 := ak (blk_drew BK310.out)
    replace BK311 := ak (blk_drew BK311.out)
    replace BK312 := ak (blk_drew BK312.out)
    replace HB := ak (below_drew1 HB.out)
    refine start_ (n := 10) (S := fun w' => w'.cell? ⟨gb310, 0, none⟩ = some (.int .i64 a0_0) ∧ w'.cell? ⟨gb310, 1, none⟩ = some (.int .i64 a0_1) ∧ w'.cell? ⟨gb310, 2, none⟩ = some (.slice A0_2 l0_2.length c0_2) ∧ w'.cell? ⟨gb310, 3, none⟩ = some (.slice A0_3 l0_3.length c0_3) ∧ w'.cell? ⟨gb311, 0, none⟩ = some (.string a1_0) ∧ w'.cell? ⟨gb311, 1, none⟩ = some (.string a1_1)) (ds := []) #[false, false, false, false, false, false, false, false, false, false] (by kernel_rfl) rfl rfl ⟨(blk_cell BK310.out 0).trans rfl, (blk_cell BK310.out 1).trans rfl, (blk_cell BK310.out 2).trans rfl, (blk_cell BK310.out 3).trans rfl, (blk_cell BK311.out 0).trans rfl, (blk_cell BK311.out 1).trans rfl⟩ (fun hHeld => ?_); refine with_tabW spec_PutEntry.tab3 spec_PutEntry.bits3 (fun HT_ HW_ => ?_)
    generalize wc.drew = w27 at BK310 BK311 BK312 HB hHeld ⊢
    refine tk 0 (some 19) HT_ HW_ hHeld ?_
    refine tk 2 (some 21) HT_ HW_ hHeld ?_
    refine join_ (σ := Value × Value × Value × Value × Value × Nat) 2 #[true, true, true, true, true, true, true, true, false, false] (fun s_ => [(20, .agg #[.int .i64 t315, .int .i64 t316, s_.1, s_.2.1]), (22, .tuple #[.agg #[.int .i64 t323, .int .i64 t324, s_.2.2.1, s_.2.2.2.1], s_.2.2.2.2.1]), (7, .pointer (some ⟨s_.2.2.2.2.2, 0, none⟩)), (18, .tuple #[.agg #[.int .i64 t323, .int .i64 t324, s_.2.2.1, s_.2.2.2.1], s_.2.2.2.2.1]), (23, .agg #[.int .i64 t323, .int .i64 t324, s_.2.2.1, s_.2.2.2.1]), (24, s_.2.2.2.2.1)]) (fun s_ w' => (w'.cell? ⟨gb310, 0, none⟩ = some (.int .i64 a0_0) ∧ w'.cell? ⟨gb310, 1, none⟩ = some (.int .i64 a0_1) ∧ w'.cell? ⟨gb310, 2, none⟩ = some (.slice A0_2 l0_2.length c0_2) ∧ w'.cell? ⟨gb310, 3, none⟩ = some (.slice A0_3 l0_3.length c0_3) ∧ w'.cell? ⟨gb311, 0, none⟩ = some (.string a1_0) ∧ w'.cell? ⟨gb311, 1, none⟩ = some (.string a1_1)) ∧ (Kd.R k45 45 w' w.heap.size (fun k_ => some k_ ≠ (s_.2.1 : Value).ownBlock ∧ some k_ ≠ (s_.2.2.1 : Value).ownBlock ∧ some k_ ≠ (s_.2.2.2.1 : Value).ownBlock ∧ some k_ ≠ (s_.2.2.2.2.1 : Value).ownBlock ∧ k_ ≠ gb311) s_.1 t317) ∧ (Kd.R k45 45 w' w.heap.size (fun k_ => some k_ ≠ (s_.1 : Value).ownBlock ∧ some k_ ≠ (s_.2.2.1 : Value).ownBlock ∧ some k_ ≠ (s_.2.2.2.1 : Value).ownBlock ∧ some k_ ≠ (s_.2.2.2.2.1 : Value).ownBlock ∧ k_ ≠ gb311) s_.2.1 t320) ∧ (Kd.R k45 45 w' w.heap.size (fun k_ => some k_ ≠ (s_.1 : Value).ownBlock ∧ some k_ ≠ (s_.2.1 : Value).ownBlock ∧ some k_ ≠ (s_.2.2.2.1 : Value).ownBlock ∧ some k_ ≠ (s_.2.2.2.2.1 : Value).ownBlock ∧ k_ ≠ gb311) s_.2.2.1 t325) ∧ (Kd.R k45 45 w' w.heap.size (fun k_ => some k_ ≠ (s_.1 : Value).ownBlock ∧ some k_ ≠ (s_.2.1 : Value).ownBlock ∧ some k_ ≠ (s_.2.2.1 : Value).ownBlock ∧ some k_ ≠ (s_.2.2.2.2.1 : Value).ownBlock ∧ k_ ≠ gb311) s_.2.2.2.1 t328) ∧ (Kd.R k45 45 w' w.heap.size (fun k_ => some k_ ≠ (s_.1 : Value).ownBlock ∧ some k_ ≠ (s_.2.1 : Value).ownBlock ∧ some k_ ≠ (s_.2.2.1 : Value).ownBlock ∧ some k_ ≠ (s_.2.2.2.1 : Value).ownBlock ∧ k_ ≠ gb311) s_.2.2.2.2.1 t331) ∧ (w'.heap[gb310]? = some (.cells #[.int .i64 a0_0, .int .i64 a0_1, .slice A0_2 l0_2.length c0_2, .slice A0_3 l0_3.length c0_3] 28 (0, 0))) ∧ (w'.heap[gb311]? = some (.cells #[.string a1_0, .string a1_1] 45 (0, 0))) ∧ (w'.heap[gb312]? = some (.cells #[.int .i64 0, .int .i64 0, .slice none 0 0, .slice none 0 0] 28 (0, 0))) ∧ (w'.heap[s_.2.2.2.2.2]? = some (.cells #[.int .i64 0, .int .i64 0, .slice none 0 0, .slice none 0 0] 28 (0, 0))) ∧ (w.heap.size ≤ s_.2.2.2.2.2) ∧ (w.heap.size ≤ s_.2.2.2.2.2) ∧ (gb310 ≠ s_.2.2.2.2.2) ∧ (s_.2.2.2.2.2 ≠ gb310) ∧ (gb311 ≠ s_.2.2.2.2.2) ∧ (s_.2.2.2.2.2 ≠ gb311) ∧ (gb312 ≠ s_.2.2.2.2.2) ∧ (s_.2.2.2.2.2 ≠ gb312) ∧ (Below w.heap.size w w')) ?_ ?_
    rotate_left
    ·intro hCont
     refine two_ (i := 1) (j := 7) (Ni := some 20) (Nj := some 7) #[true, true, true, false, false, false, false, false, false, false] #[true, false, true, false, false, false, false, true, false, false] rfl rfl rfl rfl (two_of HT_.out (by kernel_rfl)) (by decide) (by decide) (fun K hK => ?_) (fun K hK => ?_)
     ·skip
      refine gO Try.func42 #[.agg #[.int .i64 a0_0, .int .i64 a0_1, .slice A0_2 l0_2.length c0_2, .slice A0_3 l0_3.length c0_3]] ?_
      with_reducible refine (spec_l12Own.calls a0_0 a0_1 _ _ l0_2 _ _ l0_3 t315 t316 t317 t320 _ ?side1 ?side2 ?side3 ?side4 A25.out).mono ?_
      (case side1 => exact kc (Kd.C_below HR0_2.out HB.out))
      (case side2 => exact HC0_2.out)
      (case side3 => exact kc (Kd.C_below HR0_3.out HB.out))
      (case side4 => exact HC0_3.out)
      rintro e w28 ⟨v318, v321, rfl, ho0, ho1, hb⟩
      refine ⟨_, rfl, ?_⟩
      have HO319 := ak (Kd.R_lower (Kd.R_newB ho0 (bk BK311.out)) (below_size (bl3 HB.out GE310.out GE311.out GE312.out)))
      have HO322 := ak (Kd.R_lower (Kd.R_newB ho1 (bk BK311.out)) (below_size (bl3 HB.out GE310.out GE311.out GE312.out)))
      replace BK310 := ak (blk_below (bk BK310.out) hb)
      replace BK311 := ak (blk_below (bk BK311.out) hb)
      replace BK312 := ak (blk_below (bk BK312.out) hb)
      replace HB := ak (below_step (bl3 HB.out GE310.out GE311.out GE312.out) hb)
      clear hb
      (try clear hb2)
      (try clear hk)
      (try clear hi)
      clear ho0
      clear ho1
      obtain ⟨Ao29, co29, eo29⟩ := Kd.R_slice HO319.out
      (first | subst eo29 | (injection eo29 with f1_ f2_ f3_; have f4_ := f1_.symm; have f5_ := f3_.symm; clear f1_ f2_ f3_; subst f4_; subst f5_))
      obtain ⟨Ao30, co30, eo30⟩ := Kd.R_slice HO322.out
      (first | subst eo30 | (injection eo30 with f1_ f2_ f3_; have f4_ := f1_.symm; have f5_ := f3_.symm; clear f1_ f2_ f3_; subst f4_; subst f5_))
      refine hK.out _ _ ⟨(blk_cell BK310.out 0).trans rfl, (blk_cell BK310.out 1).trans rfl, (blk_cell BK310.out 2).trans rfl, (blk_cell BK310.out 3).trans rfl, (blk_cell BK311.out 0).trans rfl, (blk_cell BK311.out 1).trans rfl⟩ (fun hHeld => ?_)
      clear hK K
      refine norm_ (a' := ?_) ?_ ?_
      rotate_left
      ·show Act.put _ (some 20) _ = _
       simp only [Act.put, List.setIfInBounds_toArray, List.set_cons_zero, List.set_cons_succ, i64_w, i32_w]
       rfl
      refine two_ (i := 3) (j := 7) (Ni := some 22) (Nj := some 7) #[true, true, true, true, false, false, false, false, false, false] #[true, true, true, false, false, false, false, true, false, false] rfl rfl rfl rfl (two_of HT_.out (by kernel_rfl)) (by decide) (by decide) (fun K hK => ?_) (fun K hK => ?_)
      ·skip
       refine gO Try.func56 #[.agg #[.int .i64 t315, .int .i64 t316, .slice Ao29 t317.length co29, .slice Ao30 t320.length co30], .agg #[.string a1_0, .string a1_1]] ?_
       with_reducible refine (spec_l12Put.calls kj2 t315 t316 _ _ t317 _ _ t320 a1_0 a1_1 t323 t324 t325 t328 t331 _ ?side1 ?side2 ?side3 ?side4 A26.out).mono ?_
       (case side1 => exact kc (Kd.R_reads' HO319.out).2.2)
       (case side2 => exact (Kd.R_reads' HO319.out).2.1)
       (case side3 => exact kc (Kd.R_reads' HO322.out).2.2)
       (case side4 => exact (Kd.R_reads' HO322.out).2.1)
       rintro e w31 ⟨v326, v329, v332, rfl, ho0, ho1, ho2, hb⟩
       refine ⟨_, rfl, ?_⟩
       have HO327 := ak (Kd.R_lower (Kd.R_newB (Kd.R_new' (Kd.R_new' ho0 (Kd.R_lt (kr HO319.out))) (Kd.R_lt (kr HO322.out))) (bk BK311.out)) (below_size (bl3 HB.out GE310.out GE311.out GE312.out)))
       have HO330 := ak (Kd.R_lower (Kd.R_newB (Kd.R_new' (Kd.R_new' ho1 (Kd.R_lt (kr HO319.out))) (Kd.R_lt (kr HO322.out))) (bk BK311.out)) (below_size (bl3 HB.out GE310.out GE311.out GE312.out)))
       have HO333 := ak (Kd.R_lower (Kd.R_newB (Kd.R_new' (Kd.R_new' ho2 (Kd.R_lt (kr HO319.out))) (Kd.R_lt (kr HO322.out))) (bk BK311.out)) (below_size (bl3 HB.out GE310.out GE311.out GE312.out)))
       replace HO319 := ak (Kd.R_mono (Kd.R_told (Kd.R_told (Kd.R_told (Kd.R_old (kr HO319.out) hb) (Kd.R_base ho0)) (Kd.R_base ho1)) (Kd.R_base ho2)) (fun _ h_ => h_.1))
       replace HO322 := ak (Kd.R_mono (Kd.R_told (Kd.R_told (Kd.R_told (Kd.R_old (kr HO322.out) hb) (Kd.R_base ho0)) (Kd.R_base ho1)) (Kd.R_base ho2)) (fun _ h_ => h_.1))
       replace BK310 := ak (blk_below (bk BK310.out) hb)
       replace BK311 := ak (blk_below (bk BK311.out) hb)
       replace BK312 := ak (blk_below (bk BK312.out) hb)
       replace HB := ak (below_step (bl3 HB.out GE310.out GE311.out GE312.out) hb)
       clear hb
       (try clear hb2)
       (try clear hk)
       (try clear hi)
       clear ho0
       clear ho1
       clear ho2
       refine hK.out _ _ ⟨(blk_cell BK310.out 0).trans rfl, (blk_cell BK310.out 1).trans rfl, (blk_cell BK310.out 2).trans rfl, (blk_cell BK310.out 3).trans rfl, (blk_cell BK311.out 0).trans rfl, (blk_cell BK311.out 1).trans rfl⟩ (fun hHeld => ?_)
       clear hK K
       refine norm_ (a' := ?_) ?_ ?_
       rotate_left
       ·show Act.put _ (some 22) _ = _
        simp only [Act.put, List.setIfInBounds_toArray, List.set_cons_zero, List.set_cons_succ, i64_w, i32_w]
        rfl
       refine pu 4 (some 18) HT_ ?_
       refine pu 5 (some 23) HT_ ?_
       refine pu 6 (some 24) HT_ ?_
       refine on 7 (some 7) HT_ (fun K hK => ?_)
       refine box_step ?hg (N := 7) ?hd (cs := #[.int .i64 0, .int .i64 0, .slice none 0 0, .slice none 0 0]) (t := 28) ?hr ?_; (case hd => rfl); (case hg => rfl); (case hr => first | (go_simp; done) | (go_simp; rfl))
       intro gb334 hg w32 hbox hb
       replace HO319 := ak (Kd.R_below (kr HO319.out) hb)
       replace HO322 := ak (Kd.R_below (kr HO322.out) hb)
       replace HO327 := ak (Kd.R_below (kr HO327.out) hb)
       replace HO330 := ak (Kd.R_below (kr HO330.out) hb)
       replace HO333 := ak (Kd.R_below (kr HO333.out) hb)
       have BK334 := ak hbox
       have GW334 := gs hg (bl3 HB.out GE310.out GE311.out GE312.out)
       have GE334 := gs hg (bl3 HB.out GE310.out GE311.out GE312.out)
       replace HB := ak (below_step (bl3 HB.out GE310.out GE311.out GE312.out) hb)
       have NB310_334 := nl hg BK310.out
       have NB334_310 := ng hg BK310.out
       replace BK310 := ak (blk_below (bk BK310.out) hb)
       have NB311_334 := nl hg BK311.out
       have NB334_311 := ng hg BK311.out
       replace BK311 := ak (blk_below (bk BK311.out) hb)
       have NB312_334 := nl hg BK312.out
       have NB334_312 := ng hg BK312.out
       replace BK312 := ak (blk_below (bk BK312.out) hb)
       clear hb hbox hg
       refine hK.out _ _ ⟨(blk_cell BK310.out 0).trans rfl, (blk_cell BK310.out 1).trans rfl, (blk_cell BK310.out 2).trans rfl, (blk_cell BK310.out 3).trans rfl, (blk_cell BK311.out 0).trans rfl, (blk_cell BK311.out 1).trans rfl⟩ (fun hHeld => ?_)
       clear hK K
       refine norm_ (a' := ?_) ?_ ?_
       rotate_left
       ·show Act.put _ (some 7) _ = _
        simp only [Act.put, List.setIfInBounds_toArray, List.set_cons_zero, List.set_cons_succ, i64_w, i32_w]
        rfl
       exact norm_ (by simp only [putAll, Act.put, List.setIfInBounds_toArray, List.set_cons_zero, List.set_cons_succ]) (hCont (.slice Ao29 t317.length co29, .slice Ao30 t320.length co30, v326, v329, v332, gb334) _ ⟨hHeld, (by (with_reducible repeat (first | apply Kd.R_alloc | apply Kd.R_drewN | apply Kd.R_drew)); exact Kd.R_mono HO319.out (fun _ hk => ⟨hk.1.1.1.1, ⟨hk.1.1.2, ⟨hk.1.2, ⟨hk.2, hk.1.1.1.2⟩⟩⟩⟩)), (by (with_reducible repeat (first | apply Kd.R_alloc | apply Kd.R_drewN | apply Kd.R_drew)); exact Kd.R_mono HO322.out (fun _ hk => ⟨hk.1.1.1.1, ⟨hk.1.1.2, ⟨hk.1.2, ⟨hk.2, hk.1.1.1.2⟩⟩⟩⟩)), (by (with_reducible repeat (first | apply Kd.R_alloc | apply Kd.R_drewN | apply Kd.R_drew)); exact Kd.R_mono HO327.out (fun _ hk => ⟨hk.1.1.2, ⟨hk.1.2, ⟨hk.1.1.1.1, ⟨hk.1.1.1.2, hk.2⟩⟩⟩⟩)), (by (with_reducible repeat (first | apply Kd.R_alloc | apply Kd.R_drewN | apply Kd.R_drew)); exact Kd.R_mono HO330.out (fun _ hk => ⟨hk.1.1.2, ⟨hk.1.2, ⟨hk.1.1.1.1, ⟨hk.1.1.1.2, hk.2⟩⟩⟩⟩)), (by (with_reducible repeat (first | apply Kd.R_alloc | apply Kd.R_drewN | apply Kd.R_drew)); exact Kd.R_mono HO333.out (fun _ hk => ⟨hk.1.1.2, ⟨hk.1.2, ⟨hk.1.1.1.1, ⟨hk.1.1.1.2, hk.2⟩⟩⟩⟩)), (bk BK310.out), (bk BK311.out), (bk BK312.out), (bk BK334.out), GW334.out, GE334.out, NB310_334.out, NB334_310.out, NB311_334.out, NB334_311.out, NB312_334.out, NB334_312.out, (bl4 HB.out GE310.out GE311.out GE312.out GE334.out)⟩)
      ·skip
       refine box_step ?hg (N := 7) ?hd (cs := #[.int .i64 0, .int .i64 0, .slice none 0 0, .slice none 0 0]) (t := 28) ?hr ?_; (case hd => rfl); (case hg => rfl); (case hr => first | (go_simp; done) | (go_simp; rfl))
       intro gb334 hg w29 hbox hb
       replace HO319 := ak (Kd.R_below (kr HO319.out) hb)
       replace HO322 := ak (Kd.R_below (kr HO322.out) hb)
       have BK334 := ak hbox
       have GW334 := gs hg (bl3 HB.out GE310.out GE311.out GE312.out)
       have GE334 := gs hg (bl3 HB.out GE310.out GE311.out GE312.out)
       replace HB := ak (below_step (bl3 HB.out GE310.out GE311.out GE312.out) hb)
       have NB310_334 := nl hg BK310.out
       have NB334_310 := ng hg BK310.out
       replace BK310 := ak (blk_below (bk BK310.out) hb)
       have NB311_334 := nl hg BK311.out
       have NB334_311 := ng hg BK311.out
       replace BK311 := ak (blk_below (bk BK311.out) hb)
       have NB312_334 := nl hg BK312.out
       have NB334_312 := ng hg BK312.out
       replace BK312 := ak (blk_below (bk BK312.out) hb)
       clear hb hbox hg
       obtain ⟨Ao30, co30, eo30⟩ := Kd.R_slice HO319.out
       (first | subst eo30 | (injection eo30 with f1_ f2_ f3_; have f4_ := f1_.symm; have f5_ := f3_.symm; clear f1_ f2_ f3_; subst f4_; subst f5_))
       obtain ⟨Ao31, co31, eo31⟩ := Kd.R_slice HO322.out
       (first | subst eo31 | (injection eo31 with f1_ f2_ f3_; have f4_ := f1_.symm; have f5_ := f3_.symm; clear f1_ f2_ f3_; subst f4_; subst f5_))
       refine hK.out _ _ ⟨(blk_cell BK310.out 0).trans rfl, (blk_cell BK310.out 1).trans rfl, (blk_cell BK310.out 2).trans rfl, (blk_cell BK310.out 3).trans rfl, (blk_cell BK311.out 0).trans rfl, (blk_cell BK311.out 1).trans rfl⟩ (fun hHeld => ?_)
       clear hK K
       refine norm_ (a' := ?_) ?_ ?_
       rotate_left
       ·show Act.put _ (some 7) _ = _
        simp only [Act.put, List.setIfInBounds_toArray, List.set_cons_zero, List.set_cons_succ, i64_w, i32_w]
        rfl
       refine on 3 (some 22) HT_ (fun K hK => ?_)
       refine gO Try.func56 #[.agg #[.int .i64 t315, .int .i64 t316, .slice Ao30 t317.length co30, .slice Ao31 t320.length co31], .agg #[.string a1_0, .string a1_1]] ?_
       with_reducible refine (spec_l12Put.calls kj2 t315 t316 _ _ t317 _ _ t320 a1_0 a1_1 t323 t324 t325 t328 t331 _ ?side1 ?side2 ?side3 ?side4 A26.out).mono ?_
       (case side1 => exact kc (Kd.R_reads' HO319.out).2.2)
       (case side2 => exact (Kd.R_reads' HO319.out).2.1)
       (case side3 => exact kc (Kd.R_reads' HO322.out).2.2)
       (case side4 => exact (Kd.R_reads' HO322.out).2.1)
       rintro e w32 ⟨v326, v329, v332, rfl, ho0, ho1, ho2, hb⟩
       refine ⟨_, rfl, ?_⟩
       have HO327 := ak (Kd.R_lower (Kd.R_newB (Kd.R_new' (Kd.R_new' ho0 (Kd.R_lt (kr HO319.out))) (Kd.R_lt (kr HO322.out))) (bk BK311.out)) (below_size (bl4 HB.out GE310.out GE311.out GE312.out GE334.out)))
       have HO330 := ak (Kd.R_lower (Kd.R_newB (Kd.R_new' (Kd.R_new' ho1 (Kd.R_lt (kr HO319.out))) (Kd.R_lt (kr HO322.out))) (bk BK311.out)) (below_size (bl4 HB.out GE310.out GE311.out GE312.out GE334.out)))
       have HO333 := ak (Kd.R_lower (Kd.R_newB (Kd.R_new' (Kd.R_new' ho2 (Kd.R_lt (kr HO319.out))) (Kd.R_lt (kr HO322.out))) (bk BK311.out)) (below_size (bl4 HB.out GE310.out GE311.out GE312.out GE334.out)))
       replace HO319 := ak (Kd.R_mono (Kd.R_told (Kd.R_told (Kd.R_told (Kd.R_old (kr HO319.out) hb) (Kd.R_base ho0)) (Kd.R_base ho1)) (Kd.R_base ho2)) (fun _ h_ => h_.1))
       replace HO322 := ak (Kd.R_mono (Kd.R_told (Kd.R_told (Kd.R_told (Kd.R_old (kr HO322.out) hb) (Kd.R_base ho0)) (Kd.R_base ho1)) (Kd.R_base ho2)) (fun _ h_ => h_.1))
       replace BK310 := ak (blk_below (bk BK310.out) hb)
       replace BK311 := ak (blk_below (bk BK311.out) hb)
       replace BK312 := ak (blk_below (bk BK312.out) hb)
       replace BK334 := ak (blk_below (bk BK334.out) hb)
       replace HB := ak (below_step (bl4 HB.out GE310.out GE311.out GE312.out GE334.out) hb)
       clear hb
       (try clear hb2)
       (try clear hk)
       (try clear hi)
       clear ho0
       clear ho1
       clear ho2
       refine hK.out _ _ ⟨(blk_cell BK310.out 0).trans rfl, (blk_cell BK310.out 1).trans rfl, (blk_cell BK310.out 2).trans rfl, (blk_cell BK310.out 3).trans rfl, (blk_cell BK311.out 0).trans rfl, (blk_cell BK311.out 1).trans rfl⟩ (fun hHeld => ?_)
       clear hK K
       refine norm_ (a' := ?_) ?_ ?_
       rotate_left
       ·show Act.put _ (some 22) _ = _
        simp only [Act.put, List.setIfInBounds_toArray, List.set_cons_zero, List.set_cons_succ, i64_w, i32_w]
        rfl
       refine pu 4 (some 18) HT_ ?_
       refine pu 5 (some 23) HT_ ?_
       refine pu 6 (some 24) HT_ ?_
       exact norm_ (by simp only [putAll, Act.put, List.setIfInBounds_toArray, List.set_cons_zero, List.set_cons_succ]) (hCont (.slice Ao30 t317.length co30, .slice Ao31 t320.length co31, v326, v329, v332, gb334) _ ⟨hHeld, (by (with_reducible repeat (first | apply Kd.R_alloc | apply Kd.R_drewN | apply Kd.R_drew)); exact Kd.R_mono HO319.out (fun _ hk => ⟨hk.1.1.1.1, ⟨hk.1.1.2, ⟨hk.1.2, ⟨hk.2, hk.1.1.1.2⟩⟩⟩⟩)), (by (with_reducible repeat (first | apply Kd.R_alloc | apply Kd.R_drewN | apply Kd.R_drew)); exact Kd.R_mono HO322.out (fun _ hk => ⟨hk.1.1.1.1, ⟨hk.1.1.2, ⟨hk.1.2, ⟨hk.2, hk.1.1.1.2⟩⟩⟩⟩)), (by (with_reducible repeat (first | apply Kd.R_alloc | apply Kd.R_drewN | apply Kd.R_drew)); exact Kd.R_mono HO327.out (fun _ hk => ⟨hk.1.1.2, ⟨hk.1.2, ⟨hk.1.1.1.1, ⟨hk.1.1.1.2, hk.2⟩⟩⟩⟩)), (by (with_reducible repeat (first | apply Kd.R_alloc | apply Kd.R_drewN | apply Kd.R_drew)); exact Kd.R_mono HO330.out (fun _ hk => ⟨hk.1.1.2, ⟨hk.1.2, ⟨hk.1.1.1.1, ⟨hk.1.1.1.2, hk.2⟩⟩⟩⟩)), (by (with_reducible repeat (first | apply Kd.R_alloc | apply Kd.R_drewN | apply Kd.R_drew)); exact Kd.R_mono HO333.out (fun _ hk => ⟨hk.1.1.2, ⟨hk.1.2, ⟨hk.1.1.1.1, ⟨hk.1.1.1.2, hk.2⟩⟩⟩⟩)), (bk BK310.out), (bk BK311.out), (bk BK312.out), (bk BK334.out), GW334.out, GE334.out, NB310_334.out, NB334_310.out, NB311_334.out, NB334_311.out, NB312_334.out, NB334_312.out, (bl4 HB.out GE310.out GE311.out GE312.out GE334.out)⟩)
     ·skip
      refine box_step ?hg (N := 7) ?hd (cs := #[.int .i64 0, .int .i64 0, .slice none 0 0, .slice none 0 0]) (t := 28) ?hr ?_; (case hd => rfl); (case hg => rfl); (case hr => first | (go_simp; done) | (go_simp; rfl))
      intro gb334 hg w28 hbox hb
      have BK334 := ak hbox
      have GW334 := gs hg (bl3 HB.out GE310.out GE311.out GE312.out)
      have GE334 := gs hg (bl3 HB.out GE310.out GE311.out GE312.out)
      replace HB := ak (below_step (bl3 HB.out GE310.out GE311.out GE312.out) hb)
      have NB310_334 := nl hg BK310.out
      have NB334_310 := ng hg BK310.out
      replace BK310 := ak (blk_below (bk BK310.out) hb)
      have NB311_334 := nl hg BK311.out
      have NB334_311 := ng hg BK311.out
      replace BK311 := ak (blk_below (bk BK311.out) hb)
      have NB312_334 := nl hg BK312.out
      have NB334_312 := ng hg BK312.out
      replace BK312 := ak (blk_below (bk BK312.out) hb)
      clear hb hbox hg
      refine hK.out _ _ ⟨(blk_cell BK310.out 0).trans rfl, (blk_cell BK310.out 1).trans rfl, (blk_cell BK310.out 2).trans rfl, (blk_cell BK310.out 3).trans rfl, (blk_cell BK311.out 0).trans rfl, (blk_cell BK311.out 1).trans rfl⟩ (fun hHeld => ?_)
      clear hK K
      refine norm_ (a' := ?_) ?_ ?_
      rotate_left
      ·show Act.put _ (some 7) _ = _
       simp only [Act.put, List.setIfInBounds_toArray, List.set_cons_zero, List.set_cons_succ, i64_w, i32_w]
       rfl
      refine on 1 (some 20) HT_ (fun K hK => ?_)
      refine gO Try.func42 #[.agg #[.int .i64 a0_0, .int .i64 a0_1, .slice A0_2 l0_2.length c0_2, .slice A0_3 l0_3.length c0_3]] ?_
      with_reducible refine (spec_l12Own.calls a0_0 a0_1 _ _ l0_2 _ _ l0_3 t315 t316 t317 t320 _ ?side1 ?side2 ?side3 ?side4 A25.out).mono ?_
      (case side1 => exact kc (Kd.C_below HR0_2.out HB.out))
      (case side2 => exact HC0_2.out)
      (case side3 => exact kc (Kd.C_below HR0_3.out HB.out))
      (case side4 => exact HC0_3.out)
      rintro e w29 ⟨v318, v321, rfl, ho0, ho1, hb⟩
      refine ⟨_, rfl, ?_⟩
      have HO319 := ak (Kd.R_lower (Kd.R_newB ho0 (bk BK311.out)) (below_size (bl4 HB.out GE310.out GE311.out GE312.out GE334.out)))
      have HO322 := ak (Kd.R_lower (Kd.R_newB ho1 (bk BK311.out)) (below_size (bl4 HB.out GE310.out GE311.out GE312.out GE334.out)))
      replace BK310 := ak (blk_below (bk BK310.out) hb)
      replace BK311 := ak (blk_below (bk BK311.out) hb)
      replace BK312 := ak (blk_below (bk BK312.out) hb)
      replace BK334 := ak (blk_below (bk BK334.out) hb)
      replace HB := ak (below_step (bl4 HB.out GE310.out GE311.out GE312.out GE334.out) hb)
      clear hb
      (try clear hb2)
      (try clear hk)
      (try clear hi)
      clear ho0
      clear ho1
      obtain ⟨Ao30, co30, eo30⟩ := Kd.R_slice HO319.out
      (first | subst eo30 | (injection eo30 with f1_ f2_ f3_; have f4_ := f1_.symm; have f5_ := f3_.symm; clear f1_ f2_ f3_; subst f4_; subst f5_))
      obtain ⟨Ao31, co31, eo31⟩ := Kd.R_slice HO322.out
      (first | subst eo31 | (injection eo31 with f1_ f2_ f3_; have f4_ := f1_.symm; have f5_ := f3_.symm; clear f1_ f2_ f3_; subst f4_; subst f5_))
      refine hK.out _ _ ⟨(blk_cell BK310.out 0).trans rfl, (blk_cell BK310.out 1).trans rfl, (blk_cell BK310.out 2).trans rfl, (blk_cell BK310.out 3).trans rfl, (blk_cell BK311.out 0).trans rfl, (blk_cell BK311.out 1).trans rfl⟩ (fun hHeld => ?_)
      clear hK K
      refine norm_ (a' := ?_) ?_ ?_
      rotate_left
      ·show Act.put _ (some 20) _ = _
       simp only [Act.put, List.setIfInBounds_toArray, List.set_cons_zero, List.set_cons_succ, i64_w, i32_w]
       rfl
      refine on 3 (some 22) HT_ (fun K hK => ?_)
      refine gO Try.func56 #[.agg #[.int .i64 t315, .int .i64 t316, .slice Ao30 t317.length co30, .slice Ao31 t320.length co31], .agg #[.string a1_0, .string a1_1]] ?_
      with_reducible refine (spec_l12Put.calls kj2 t315 t316 _ _ t317 _ _ t320 a1_0 a1_1 t323 t324 t325 t328 t331 _ ?side1 ?side2 ?side3 ?side4 A26.out).mono ?_
      (case side1 => exact kc (Kd.R_reads' HO319.out).2.2)
      (case side2 => exact (Kd.R_reads' HO319.out).2.1)
      (case side3 => exact kc (Kd.R_reads' HO322.out).2.2)
      (case side4 => exact (Kd.R_reads' HO322.out).2.1)
      rintro e w32 ⟨v326, v329, v332, rfl, ho0, ho1, ho2, hb⟩
      refine ⟨_, rfl, ?_⟩
      have HO327 := ak (Kd.R_lower (Kd.R_newB (Kd.R_new' (Kd.R_new' ho0 (Kd.R_lt (kr HO319.out))) (Kd.R_lt (kr HO322.out))) (bk BK311.out)) (below_size (bl4 HB.out GE310.out GE311.out GE312.out GE334.out)))
      have HO330 := ak (Kd.R_lower (Kd.R_newB (Kd.R_new' (Kd.R_new' ho1 (Kd.R_lt (kr HO319.out))) (Kd.R_lt (kr HO322.out))) (bk BK311.out)) (below_size (bl4 HB.out GE310.out GE311.out GE312.out GE334.out)))
      have HO333 := ak (Kd.R_lower (Kd.R_newB (Kd.R_new' (Kd.R_new' ho2 (Kd.R_lt (kr HO319.out))) (Kd.R_lt (kr HO322.out))) (bk BK311.out)) (below_size (bl4 HB.out GE310.out GE311.out GE312.out GE334.out)))
      replace HO319 := ak (Kd.R_mono (Kd.R_told (Kd.R_told (Kd.R_told (Kd.R_old (kr HO319.out) hb) (Kd.R_base ho0)) (Kd.R_base ho1)) (Kd.R_base ho2)) (fun _ h_ => h_.1))
      replace HO322 := ak (Kd.R_mono (Kd.R_told (Kd.R_told (Kd.R_told (Kd.R_old (kr HO322.out) hb) (Kd.R_base ho0)) (Kd.R_base ho1)) (Kd.R_base ho2)) (fun _ h_ => h_.1))
      replace BK310 := ak (blk_below (bk BK310.out) hb)
      replace BK311 := ak (blk_below (bk BK311.out) hb)
      replace BK312 := ak (blk_below (bk BK312.out) hb)
      replace BK334 := ak (blk_below (bk BK334.out) hb)
      replace HB := ak (below_step (bl4 HB.out GE310.out GE311.out GE312.out GE334.out) hb)
      clear hb
      (try clear hb2)
      (try clear hk)
      (try clear hi)
      clear ho0
      clear ho1
      clear ho2
      refine hK.out _ _ ⟨(blk_cell BK310.out 0).trans rfl, (blk_cell BK310.out 1).trans rfl, (blk_cell BK310.out 2).trans rfl, (blk_cell BK310.out 3).trans rfl, (blk_cell BK311.out 0).trans rfl, (blk_cell BK311.out 1).trans rfl⟩ (fun hHeld => ?_)
      clear hK K
      refine norm_ (a' := ?_) ?_ ?_
      rotate_left
      ·show Act.put _ (some 22) _ = _
       simp only [Act.put, List.setIfInBounds_toArray, List.set_cons_zero, List.set_cons_succ, i64_w, i32_w]
       rfl
      refine pu 4 (some 18) HT_ ?_
      refine pu 5 (some 23) HT_ ?_
      refine pu 6 (some 24) HT_ ?_
      exact norm_ (by simp only [putAll, Act.put, List.setIfInBounds_toArray, List.set_cons_zero, List.set_cons_succ]) (hCont (.slice Ao30 t317.length co30, .slice Ao31 t320.length co31, v326, v329, v332, gb334) _ ⟨hHeld, (by (with_reducible repeat (first | apply Kd.R_alloc | apply Kd.R_drewN | apply Kd.R_drew)); exact Kd.R_mono HO319.out (fun _ hk => ⟨hk.1.1.1.1, ⟨hk.1.1.2, ⟨hk.1.2, ⟨hk.2, hk.1.1.1.2⟩⟩⟩⟩)), (by (with_reducible repeat (first | apply Kd.R_alloc | apply Kd.R_drewN | apply Kd.R_drew)); exact Kd.R_mono HO322.out (fun _ hk => ⟨hk.1.1.1.1, ⟨hk.1.1.2, ⟨hk.1.2, ⟨hk.2, hk.1.1.1.2⟩⟩⟩⟩)), (by (with_reducible repeat (first | apply Kd.R_alloc | apply Kd.R_drewN | apply Kd.R_drew)); exact Kd.R_mono HO327.out (fun _ hk => ⟨hk.1.1.2, ⟨hk.1.2, ⟨hk.1.1.1.1, ⟨hk.1.1.1.2, hk.2⟩⟩⟩⟩)), (by (with_reducible repeat (first | apply Kd.R_alloc | apply Kd.R_drewN | apply Kd.R_drew)); exact Kd.R_mono HO330.out (fun _ hk => ⟨hk.1.1.2, ⟨hk.1.2, ⟨hk.1.1.1.1, ⟨hk.1.1.1.2, hk.2⟩⟩⟩⟩)), (by (with_reducible repeat (first | apply Kd.R_alloc | apply Kd.R_drewN | apply Kd.R_drew)); exact Kd.R_mono HO333.out (fun _ hk => ⟨hk.1.1.2, ⟨hk.1.2, ⟨hk.1.1.1.1, ⟨hk.1.1.1.2, hk.2⟩⟩⟩⟩)), (bk BK310.out), (bk BK311.out), (bk BK312.out), (bk BK334.out), GW334.out, GE334.out, NB310_334.out, NB334_310.out, NB311_334.out, NB334_311.out, NB312_334.out, NB334_312.out, (bl4 HB.out GE310.out GE311.out GE312.out GE334.out)⟩)
    rintro ⟨v318, v321, v326, v329, v332, gb334⟩ w33 ⟨hS_, h0_, h1_, h2_, h3_, h4_, h5_, h6_, h7_, h8_, h9_, h10_, h11_, h12_, h13_, h14_, h15_, h16_, h17_⟩
    have n0_ : Aside0 (Kd.R k45 45 w33 w.heap.size (fun k_ => some k_ ≠ (v321 : Value).ownBlock ∧ some k_ ≠ (v326 : Value).ownBlock ∧ some k_ ≠ (v329 : Value).ownBlock ∧ some k_ ≠ (v332 : Value).ownBlock ∧ k_ ≠ gb311) v318 t317) := ⟨h0_⟩
    have n1_ : Aside0 (Kd.R k45 45 w33 w.heap.size (fun k_ => some k_ ≠ (v318 : Value).ownBlock ∧ some k_ ≠ (v326 : Value).ownBlock ∧ some k_ ≠ (v329 : Value).ownBlock ∧ some k_ ≠ (v332 : Value).ownBlock ∧ k_ ≠ gb311) v321 t320) := ⟨h1_⟩
    have n2_ : Aside0 (Kd.R k45 45 w33 w.heap.size (fun k_ => some k_ ≠ (v318 : Value).ownBlock ∧ some k_ ≠ (v321 : Value).ownBlock ∧ some k_ ≠ (v329 : Value).ownBlock ∧ some k_ ≠ (v332 : Value).ownBlock ∧ k_ ≠ gb311) v326 t325) := ⟨h2_⟩
    have n3_ : Aside0 (Kd.R k45 45 w33 w.heap.size (fun k_ => some k_ ≠ (v318 : Value).ownBlock ∧ some k_ ≠ (v321 : Value).ownBlock ∧ some k_ ≠ (v326 : Value).ownBlock ∧ some k_ ≠ (v332 : Value).ownBlock ∧ k_ ≠ gb311) v329 t328) := ⟨h3_⟩
    have n4_ : Aside0 (Kd.R k45 45 w33 w.heap.size (fun k_ => some k_ ≠ (v318 : Value).ownBlock ∧ some k_ ≠ (v321 : Value).ownBlock ∧ some k_ ≠ (v326 : Value).ownBlock ∧ some k_ ≠ (v329 : Value).ownBlock ∧ k_ ≠ gb311) v332 t331) := ⟨h4_⟩
    have n5_ : Aside0 (w33.heap[gb310]? = some (.cells #[.int .i64 a0_0, .int .i64 a0_1, .slice A0_2 l0_2.length c0_2, .slice A0_3 l0_3.length c0_3] 28 (0, 0))) := ⟨h5_⟩
    have n6_ : Aside0 (w33.heap[gb311]? = some (.cells #[.string a1_0, .string a1_1] 45 (0, 0))) := ⟨h6_⟩
    have n7_ : Aside0 (w33.heap[gb312]? = some (.cells #[.int .i64 0, .int .i64 0, .slice none 0 0, .slice none 0 0] 28 (0, 0))) := ⟨h7_⟩
    have n8_ : Aside0 (w33.heap[gb334]? = some (.cells #[.int .i64 0, .int .i64 0, .slice none 0 0, .slice none 0 0] 28 (0, 0))) := ⟨h8_⟩
    have n9_ : Aside0 (w.heap.size ≤ gb334) := ⟨h9_⟩
    have n10_ : Aside0 (w.heap.size ≤ gb334) := ⟨h10_⟩
    have n11_ : Aside0 (gb310 ≠ gb334) := ⟨h11_⟩
    have n12_ : Aside0 (gb334 ≠ gb310) := ⟨h12_⟩
    have n13_ : Aside0 (gb311 ≠ gb334) := ⟨h13_⟩
    have n14_ : Aside0 (gb334 ≠ gb311) := ⟨h14_⟩
    have n15_ : Aside0 (gb312 ≠ gb334) := ⟨h15_⟩
    have n16_ : Aside0 (gb334 ≠ gb312) := ⟨h16_⟩
    have n17_ : Aside0 (Below w.heap.size w w33) := ⟨h17_⟩
    clear BK310
    clear BK311
    clear BK312
    clear HB
    clear h0_ h1_ h2_ h3_ h4_ h5_ h6_ h7_ h8_ h9_ h10_ h11_ h12_ h13_ h14_ h15_ h16_ h17_
    have HO319 := n0_
    have HO322 := n1_
    have HO327 := n2_
    have HO330 := n3_
    have HO333 := n4_
    have BK310 := n5_
    have BK311 := n6_
    have BK312 := n7_
    have BK334 := n8_
    have GW334 := n9_
    have GE334 := n10_
    have NB310_334 := n11_
    have NB334_310 := n12_
    have NB311_334 := n13_
    have NB334_311 := n14_
    have NB312_334 := n15_
    have NB334_312 := n16_
    have HB := n17_
    clear n0_ n1_ n2_ n3_ n4_ n5_ n6_ n7_ n8_ n9_ n10_ n11_ n12_ n13_ n14_ n15_ n16_ n17_
    have hHeld : w33.cell? ⟨gb310, 0, none⟩ = some (.int .i64 a0_0) ∧ w33.cell? ⟨gb310, 1, none⟩ = some (.int .i64 a0_1) ∧ w33.cell? ⟨gb310, 2, none⟩ = some (.slice A0_2 l0_2.length c0_2) ∧ w33.cell? ⟨gb310, 3, none⟩ = some (.slice A0_3 l0_3.length c0_3) ∧ w33.cell? ⟨gb311, 0, none⟩ = some (.string a1_0) ∧ w33.cell? ⟨gb311, 1, none⟩ = some (.string a1_1) := hS_
    obtain ⟨Ao36, co36, eo36⟩ := Kd.R_slice HO327.out
    (first | subst eo36 | (injection eo36 with f1_ f2_ f3_; have f4_ := f1_.symm; have f5_ := f3_.symm; clear f1_ f2_ f3_; subst f4_; subst f5_))
    obtain ⟨Ao38, co38, eo38⟩ := Kd.R_slice HO330.out
    (first | subst eo38 | (injection eo38 with f1_ f2_ f3_; have f4_ := f1_.symm; have f5_ := f3_.symm; clear f1_ f2_ f3_; subst f4_; subst f5_))
    refine norm_ (a' := ?_) ?_ ?_
    rotate_left
    ·simp only [putAll, Act.put, List.setIfInBounds_toArray, List.set_cons_zero, List.set_cons_succ]
     rfl
    refine on 8 none HT_ (fun K hK => ?_)
    have hs34 := bc0 BK334.out
    have hfs34 := blk_frozen BK334.out 0
    have hns34_0 := NB310_334.out
    have hns34_1 := NB311_334.out
    have hns34_2 := NB312_334.out
    have hms34_0 := NB334_310.out
    have hms34_1 := NB334_311.out
    have hms34_2 := NB334_312.out
    have hs35 := bc1 BK334.out
    have hfs35 := blk_frozen BK334.out 1
    have hns35_0 := NB310_334.out
    have hns35_1 := NB311_334.out
    have hns35_2 := NB312_334.out
    have hms35_0 := NB334_310.out
    have hms35_1 := NB334_311.out
    have hms35_2 := NB334_312.out
    have hs37 := bc2 BK334.out
    have hfs37 := blk_frozen BK334.out 2
    have hns37_0 := NB310_334.out
    have hns37_1 := NB311_334.out
    have hns37_2 := NB312_334.out
    have hms37_0 := NB334_310.out
    have hms37_1 := NB334_311.out
    have hms37_2 := NB334_312.out
    have hs39 := bc3 BK334.out
    have hfs39 := blk_frozen BK334.out 3
    have hns39_0 := NB310_334.out
    have hns39_1 := NB311_334.out
    have hns39_2 := NB312_334.out
    have hms39_0 := NB334_310.out
    have hms39_1 := NB334_311.out
    have hms39_2 := NB334_312.out
    refine skip_ (w1 := ?_) (by rfl) rfl ?_ ?_
    rotate_left
    ·go_simp
     rfl
    refine hK.out _ _ ⟨((cell_far (p := ⟨gb334, _, none⟩) NB310_334.out _).trans (((cell_far (p := ⟨gb334, _, none⟩) NB310_334.out _).trans (((cell_far (p := ⟨gb334, _, none⟩) NB310_334.out _).trans (((cell_far (p := ⟨gb334, _, none⟩) NB310_334.out _).trans (hHeld.1)))))))), ((cell_far (p := ⟨gb334, _, none⟩) NB310_334.out _).trans (((cell_far (p := ⟨gb334, _, none⟩) NB310_334.out _).trans (((cell_far (p := ⟨gb334, _, none⟩) NB310_334.out _).trans (((cell_far (p := ⟨gb334, _, none⟩) NB310_334.out _).trans (hHeld.2.1)))))))), ((cell_far (p := ⟨gb334, _, none⟩) NB310_334.out _).trans (((cell_far (p := ⟨gb334, _, none⟩) NB310_334.out _).trans (((cell_far (p := ⟨gb334, _, none⟩) NB310_334.out _).trans (((cell_far (p := ⟨gb334, _, none⟩) NB310_334.out _).trans (hHeld.2.2.1)))))))), ((cell_far (p := ⟨gb334, _, none⟩) NB310_334.out _).trans (((cell_far (p := ⟨gb334, _, none⟩) NB310_334.out _).trans (((cell_far (p := ⟨gb334, _, none⟩) NB310_334.out _).trans (((cell_far (p := ⟨gb334, _, none⟩) NB310_334.out _).trans (hHeld.2.2.2.1)))))))), ((cell_far (p := ⟨gb334, _, none⟩) NB311_334.out _).trans (((cell_far (p := ⟨gb334, _, none⟩) NB311_334.out _).trans (((cell_far (p := ⟨gb334, _, none⟩) NB311_334.out _).trans (((cell_far (p := ⟨gb334, _, none⟩) NB311_334.out _).trans (hHeld.2.2.2.2.1)))))))), ((cell_far (p := ⟨gb334, _, none⟩) NB311_334.out _).trans (((cell_far (p := ⟨gb334, _, none⟩) NB311_334.out _).trans (((cell_far (p := ⟨gb334, _, none⟩) NB311_334.out _).trans (((cell_far (p := ⟨gb334, _, none⟩) NB311_334.out _).trans (hHeld.2.2.2.2.2))))))))⟩ (fun hHeld => ?_)
    clear hK K
    refine pu 9 (some 8) HT_ ?_
    refine done_ (done_of HT_.out (by kernel_rfl)) ?_
    have hnb40 := NB334_310.out
    have hnc40 := NB310_334.out
    have hnb41 := NB334_311.out
    have hnc41 := NB311_334.out
    have hnb42 := NB334_312.out
    have hnc42 := NB312_334.out
    obtain ⟨hcz43_0, hcz43_1, hcz43_2, hcz43_3, hfz43_0, hfz43_1, hfz43_2, hfz43_3⟩ := b4 BK334.out
    have hnb44 := NB312_310.out
    have hnc44 := NB310_312.out
    have hnb45 := NB312_311.out
    have hnc45 := NB311_312.out
    obtain ⟨hcz46_0, hcz46_1, hcz46_2, hcz46_3, hfz46_0, hfz46_1, hfz46_2, hfz46_3⟩ := b4 BK312.out
    try go_wp2
    refine bodyPost_ret (results_ctt rfl _ _ gb312 28 #[.int .i64 t323, .int .i64 t324, .slice Ao36 t325.length co36, .slice Ao38 t328.length co38] (0, 0) _ rfl (bq BK312.out) Try.underlying28 rfl (by kernel_rfl)) rfl ?_
    exact ⟨_, _, _, by first | rfl | (simp [errW_none, errW_some] <;> rfl) | (simp [*, errW_none, errW_some] <;> rfl), by (with_reducible repeat (first | apply Kd.R_alloc | apply Kd.R_drewN | apply Kd.R_drew)); exact Kd.R_mono (Kd.R_far (p := ⟨gb312, 3, none⟩) (Kd.R_far (p := ⟨gb312, 2, none⟩) (Kd.R_far (p := ⟨gb312, 1, none⟩) (Kd.R_far (p := ⟨gb312, 0, none⟩) (Kd.R_far (p := ⟨gb334, 3, none⟩) (Kd.R_far (p := ⟨gb334, 2, none⟩) (Kd.R_far (p := ⟨gb334, 1, none⟩) (Kd.R_far (p := ⟨gb334, 0, none⟩) (Kd.R_types (Kd.R_types HO327.out BK334.out (by decide)) BK312.out (by decide)) (fun _ hk => hk.1.2) (.int .i64 t323)) (fun _ hk => hk.1.2) (.int .i64 t324)) (fun _ hk => hk.1.2) (.slice Ao36 t325.length co36)) (fun _ hk => hk.1.2) (.slice Ao38 t328.length co38)) (fun _ hk => hk.2) (.int .i64 t323)) (fun _ hk => hk.2) (.int .i64 t324)) (fun _ hk => hk.2) (.slice Ao36 t325.length co36)) (fun _ hk => hk.2) (.slice Ao38 t328.length co38)) (fun _ hk => ⟨hk.1.1.2.2.1, hk.1.1.2.2.2.1⟩), by (with_reducible repeat (first | apply Kd.R_alloc | apply Kd.R_drewN | apply Kd.R_drew)); exact Kd.R_mono (Kd.R_far (p := ⟨gb312, 3, none⟩) (Kd.R_far (p := ⟨gb312, 2, none⟩) (Kd.R_far (p := ⟨gb312, 1, none⟩) (Kd.R_far (p := ⟨gb312, 0, none⟩) (Kd.R_far (p := ⟨gb334, 3, none⟩) (Kd.R_far (p := ⟨gb334, 2, none⟩) (Kd.R_far (p := ⟨gb334, 1, none⟩) (Kd.R_far (p := ⟨gb334, 0, none⟩) (Kd.R_types (Kd.R_types HO330.out BK334.out (by decide)) BK312.out (by decide)) (fun _ hk => hk.1.2) (.int .i64 t323)) (fun _ hk => hk.1.2) (.int .i64 t324)) (fun _ hk => hk.1.2) (.slice Ao36 t325.length co36)) (fun _ hk => hk.1.2) (.slice Ao38 t328.length co38)) (fun _ hk => hk.2) (.int .i64 t323)) (fun _ hk => hk.2) (.int .i64 t324)) (fun _ hk => hk.2) (.slice Ao36 t325.length co36)) (fun _ hk => hk.2) (.slice Ao38 t328.length co38)) (fun _ hk => ⟨hk.1.1.2.2.1, hk.1.1.2.2.2.1⟩), by (with_reducible repeat (first | apply Kd.R_alloc | apply Kd.R_drewN | apply Kd.R_drew)); exact Kd.R_mono (Kd.R_far (p := ⟨gb312, 3, none⟩) (Kd.R_far (p := ⟨gb312, 2, none⟩) (Kd.R_far (p := ⟨gb312, 1, none⟩) (Kd.R_far (p := ⟨gb312, 0, none⟩) (Kd.R_far (p := ⟨gb334, 3, none⟩) (Kd.R_far (p := ⟨gb334, 2, none⟩) (Kd.R_far (p := ⟨gb334, 1, none⟩) (Kd.R_far (p := ⟨gb334, 0, none⟩) (Kd.R_types (Kd.R_types HO333.out BK334.out (by decide)) BK312.out (by decide)) (fun _ hk => hk.1.2) (.int .i64 t323)) (fun _ hk => hk.1.2) (.int .i64 t324)) (fun _ hk => hk.1.2) (.slice Ao36 t325.length co36)) (fun _ hk => hk.1.2) (.slice Ao38 t328.length co38)) (fun _ hk => hk.2) (.int .i64 t323)) (fun _ hk => hk.2) (.int .i64 t324)) (fun _ hk => hk.2) (.slice Ao36 t325.length co36)) (fun _ hk => hk.2) (.slice Ao38 t328.length co38)) (fun _ hk => ⟨hk.1.1.2.2.1, hk.1.1.2.2.2.1⟩), bl4 HB.out GE310.out GE311.out GE312.out GE334.out⟩

end Go.Proofs.Ytfopmaiednikhaa.PFnParts
