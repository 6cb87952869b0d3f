-- written by a program of this session (wip/tool)
import Derived.Test.YtfopmaiednikhaaPFnPartsx0
import Derived.Test.YtfopmaiednikhaaPFnPartsx4
import Derived.Test.YtfopmaiednikhaaPFnPartsx6
import Derived.Test.YtfopmaiednikhaaPFnPartsx8
import Derived.Test.YtfopmaiednikhaaPFnPartsx10
import Derived.Test.YtfopmaiednikhaaVOwn0
import Derived.Test.YtfopmaiednikhaaVOwnOpen
import Derived.WalkKit
import Derived.BigCall
import Derived.Lib.SliceRun
import Derived.Deep.RegionLaw
import Derived.Maps.OwnSet
import Derived.Maps.OwnOps
import Derived.Maps.Views
import Derived.Test.YtfopmaiednikhaaVWZeros
import Derived.Test.YtfopmaiednikhaaVWArr
import Derived.Test.YtfopmaiednikhaaVOwnShort
import Derived.Test.YtfopmaiednikhaaOwnSq
namespace Go.Proofs.Ytfopmaiednikhaa.PFnParts
open Go.RowKit Go.Proofs.YtfopmaiednikhaaW.PrintWords Go.Proofs.YtfopmaiednikhaaW.PrintLast Go.Proofs.YtfopmaiednikhaaW.PrintMore Go.Shelf Go.Proofs.YtfopmaiednikhaaOwn
attribute [local go_sem] max2_int min2_int max_two min_two max_three min_three max_four min_four   -- for this text's walks alone
set_option linter.unusedVariables false
set_option linter.unusedSimpArgs false

/-! ### spec_PlaySegmented: function 18 -/
mutual
def spec_PlaySegmented.j0 : Nat → List (S45) → Bool → Int → Int → List (S45) → List (S45) → Option (Int × Int × (List (S45)) × (List (S45)) × List ByteArray × Bool)
 | 0, _, _, _, _, _, _ => none
 | k + 1, x2, x29, x423000, x423001, x423002, x423003 => if x29 = true then (some (0, 0, ([] : List (S45)), ([] : List (S45)), ([] : List ByteArray), false)) else (spec_PlaySegmented.l0 k ([] : List ByteArray) x2 (x2.length : Int) 0 x423000 x423001 x423002 x423003)
def spec_PlaySegmented.l0 : Nat → List ByteArray → List (S45) → Int → Int → Int → Int → List (S45) → List (S45) → Option (Int × Int × (List (S45)) × (List (S45)) × List ByteArray × Bool)
 | 0, _, _, _, _, _, _, _, _ => none
 | k + 1, x11, x31, x32, x33, x423000, x423001, x423002, x423003 => if x33 < x32 then (if 0 ≤ x33 then (if x33 < (x31.length : Int) then ((spec_l12Entry.f ((rd_T45 x31 x33).f0) ((rd_T45 x31 x33).f1)).bind fun t433 => (if t433 = true then (if ((rd_T45 x31 x33).f1).toList = ([] : List UInt8) then ((spec_l12Get.f k x423000 x423001 x423002 x423003 ((rd_T45 x31 x33).f0)).bind fun bt434 => (if x11.length < 8796093022208 then (spec_PlaySegmented.l0 k (x11 ++ [bt434.2.2.2.2.1]) x31 x32 (wrap64 (x33 + 1)) bt434.1 bt434.2.1 bt434.2.2.1 bt434.2.2.2.1) else (none))) else ((spec_l12Put.f k x423000 x423001 x423002 x423003 ((rd_T45 x31 x33).f0) ((rd_T45 x31 x33).f1)).bind fun bt448 => (spec_PlaySegmented.l0 k x11 x31 x32 (wrap64 (x33 + 1)) bt448.1 bt448.2.1 bt448.2.2.1 bt448.2.2.2.1))) else (some (0, 0, ([] : List (S45)), ([] : List (S45)), ([] : List ByteArray), false)))) else (none)) else (none)) else ((spec_l12Own.f x423000 x423001 x423002 x423003).bind fun bt423 => (some (bt423.1, bt423.2.1, bt423.2.2.1, bt423.2.2.2, x11, true)))
end
def spec_PlaySegmented.f (k : Nat) (a0 : Int) (a1 : Int) (l2 : List (S45)) : Option (Int × Int × (List (S45)) × (List (S45)) × List ByteArray × Bool) := (spec_NewSegmented.f a0 a1).bind fun bt413 => (if bt413.2.2.2.2 = true then (spec_PlaySegmented.j0 k l2 (decide ((l2.length : Int) > 200)) bt413.1 bt413.2.1 bt413.2.2.1 bt413.2.2.2.1) else (spec_PlaySegmented.j0 k l2 true bt413.1 bt413.2.1 bt413.2.2.1 bt413.2.2.2.1))
theorem spec_PlaySegmented.mono_l : ∀ k, (∀ y0 y1 y2 y3 y4 y5, LeO (spec_PlaySegmented.j0 k y0 y1 y2 y3 y4 y5) (spec_PlaySegmented.j0 (k + 1) y0 y1 y2 y3 y4 y5)) ∧ (∀ y0 y1 y2 y3 y4 y5 y6 y7, LeO (spec_PlaySegmented.l0 k y0 y1 y2 y3 y4 y5 y6 y7) (spec_PlaySegmented.l0 (k + 1) y0 y1 y2 y3 y4 y5 y6 y7))
 | 0 => ⟨fun _ _ _ _ _ _ r h => by simp [spec_PlaySegmented.j0] at h, fun _ _ _ _ _ _ _ _ r h => by simp [spec_PlaySegmented.l0] at h⟩
 | k + 1 => by
  obtain ⟨ih0, ih1⟩ := spec_PlaySegmented.mono_l k
  refine ⟨?_, ?_⟩
  ·intro y0 y1 y2 y3 y4 y5
   unfold spec_PlaySegmented.j0
   repeat' first
   | (with_reducible exact ih0 _ _ _ _ _ _)
   | (with_reducible exact ih1 _ _ _ _ _ _ _ _)
   | (with_reducible exact spec_l12Get.mono _ _ _ _ _ _)
   | (with_reducible exact spec_l12Put.mono _ _ _ _ _ _ _)
   | (with_reducible exact LeO.refl _)
   | (with_reducible exact LeO.none _)
   | (with_reducible refine LeO.ite ?_ ?_)
   | (with_reducible refine LeO.bind ?_ (fun _ => ?_))
   | exact ih0 _ _ _ _ _ _
   | exact ih1 _ _ _ _ _ _ _ _
   | exact spec_l12Get.mono _ _ _ _ _ _
   | exact spec_l12Put.mono _ _ _ _ _ _ _
   | exact LeO.none _
   | refine LeO.ite ?_ ?_
   | refine LeO.bind ?_ (fun _ => ?_)
  ·intro y0 y1 y2 y3 y4 y5 y6 y7
   unfold spec_PlaySegmented.l0
   repeat' first
   | (with_reducible exact ih0 _ _ _ _ _ _)
   | (with_reducible exact ih1 _ _ _ _ _ _ _ _)
   | (with_reducible exact spec_l12Get.mono _ _ _ _ _ _)
   | (with_reducible exact spec_l12Put.mono _ _ _ _ _ _ _)
   | (with_reducible exact LeO.refl _)
   | (with_reducible exact LeO.none _)
   | (with_reducible refine LeO.ite ?_ ?_)
   | (with_reducible refine LeO.bind ?_ (fun _ => ?_))
   | exact ih0 _ _ _ _ _ _
   | exact ih1 _ _ _ _ _ _ _ _
   | exact spec_l12Get.mono _ _ _ _ _ _
   | exact spec_l12Put.mono _ _ _ _ _ _ _
   | exact LeO.none _
   | refine LeO.ite ?_ ?_
   | refine LeO.bind ?_ (fun _ => ?_)
theorem spec_PlaySegmented.mono : ∀ a0 a1 a2 k, LeO (spec_PlaySegmented.f k a0 a1 a2) (spec_PlaySegmented.f (k + 1) a0 a1 a2) := by
 intro a0 a1 a2 k
 obtain ⟨ih0, ih1⟩ := spec_PlaySegmented.mono_l k
 unfold spec_PlaySegmented.f
 repeat' first
   | (with_reducible exact ih0 _ _ _ _ _ _)
   | (with_reducible exact ih1 _ _ _ _ _ _ _ _)
   | (with_reducible exact spec_l12Get.mono _ _ _ _ _ _)
   | (with_reducible exact spec_l12Put.mono _ _ _ _ _ _ _)
   | (with_reducible exact LeO.refl _)
   | (with_reducible exact LeO.none _)
   | (with_reducible refine LeO.ite ?_ ?_)
   | (with_reducible refine LeO.bind ?_ (fun _ => ?_))
   | exact ih0 _ _ _ _ _ _
   | exact ih1 _ _ _ _ _ _ _ _
   | exact spec_l12Get.mono _ _ _ _ _ _
   | exact spec_l12Put.mono _ _ _ _ _ _ _
   | exact LeO.none _
   | refine LeO.ite ?_ ?_
   | refine LeO.bind ?_ (fun _ => ?_)
set_option maxHeartbeats 8000000 in
set_option maxRecDepth 100000 in
theorem spec_PlaySegmented.calls (k : Nat) (a0 : Int) (a1 : Int) (A2 : Option Addr) (c2 : Nat) (l2 : List (S45)) (r1 : Int) (r2 : Int) (r3 : List (S45)) (r4 : List (S45)) (r5 : List ByteArray) (r6 : Bool) (w : World) (hr2 : Kd.C k45 w A2 l2.length l2) (hc2 : l2.length ≤ c2) (h : spec_PlaySegmented.f k a0 a1 l2 = some (r1, r2, r3, r4, r5, r6)) :
  Calls Try.prog 18 #[.int .i64 a0, .int .i64 a1, .slice A2 l2.length c2] w fun e w' => ∃ v2_ v3_ v4_ : Value, e = .returned (.tuple #[.agg #[.int .i64 r1, .int .i64 r2, v2_, v3_], v4_, .bool r6]) ∧ Kd.R k45 45 w' w.heap.size (fun k_ => some k_ ≠ (v3_ : Value).ownBlock) v2_ r3 ∧ Kd.R k45 45 w' w.heap.size (fun k_ => some k_ ≠ (v2_ : Value).ownBlock) v3_ r4 ∧ Kd.R Kd.string 9 w' w.heap.size (fun _ => True) v4_ r5 ∧ Below w.heap.size w w' := by
 have hu28 := Try.underlying28
 have hu45 := Try.underlying45
 have HR2 := ak hr2
 have HC2 := ak hc2
 clear hr2 hc2
 have HB := ak (Below.refl w.heap.size w)
 have H : ((spec_NewSegmented.f a0 a1).bind fun bt413 => (if bt413.2.2.2.2 = true then (spec_PlaySegmented.j0 k l2 (decide ((l2.length : Int) > 200)) bt413.1 bt413.2.1 bt413.2.2.1 bt413.2.2.2.1) else (spec_PlaySegmented.j0 k l2 true bt413.1 bt413.2.1 bt413.2.2.1 bt413.2.2.2.1))) = some (r1, r2, r3, r4, r5, r6) := h
 clear h
 replace H := Option.bind_eq_some_iff.mp H
 obtain ⟨⟨t413, t414, t415, t418, t421⟩, A40, H⟩ := H
 try dsimp only at H
 have A4 := ak A40
 clear A40
 have HC5 := ak H
 clear H
 go_enter Try.func18, Try.ntmps18
 go_upto_region 2 with (first | ((with_reducible refine gate_dst (N := 6) rfl ?_); (try (refine gate_guard (by rfl) ?_; dsimp only)); refine box_event ?hg (N := 6) ?hd (cs := #[.int .i64 0, .int .i64 0, .slice none 0 0, .slice none 0 0]) (t := 28) ?hr ?_; (case hd => rfl); (case hg => rfl); (case hr => first | (go_simp; done) | (go_simp; rfl)); intro gb412 hg w6 hbox hb; have BK412 := ak hbox; have GW412 := gs hg (bl HB.out); have GE412 := gs hg (bl HB.out); replace HB := ak (below_step (bl HB.out) hb); clear hb hbox hg) | (refine gL 54 Try.func54 (some 20) #[.int .i64 a0, .int .i64 a1] ?_; (with_reducible refine (spec_NewSegmented.calls a0 a1 t413 t414 t415 t418 t421 _ A4.out).mono ?_); rintro e w7 ⟨v416, v419, rfl, ho0, ho1, hb⟩; refine ⟨_, rfl, ?_⟩; have HO417 := ak (Kd.R_lower ho0 (below_size (bl1 HB.out GE412.out))); have HO420 := ak (Kd.R_lower ho1 (below_size (bl1 HB.out GE412.out))); replace BK412 := ak (blk_below (bk BK412.out) hb); replace HB := ak (below_step (bl1 HB.out GE412.out) hb); clear hb ho0 ho1) | ((with_reducible refine gate_dst (N := 9) rfl ?_); (try (refine gate_guard (by rfl) ?_; dsimp only)); refine box_event ?hg (N := 9) ?hd (cs := #[.int .i64 0, .int .i64 0, .slice none 0 0, .slice none 0 0]) (t := 28) ?hr ?_; (case hd => rfl); (case hg => rfl); (case hr => first | (go_simp; done) | (go_simp; rfl)); intro gb422 hg w8 hbox hb; replace HO417 := ak (Kd.R_below (kr HO417.out) hb); replace HO420 := ak (Kd.R_below (kr HO420.out) hb); have BK422 := ak hbox; have GW422 := gs hg (bl1 HB.out GE412.out); have GE422 := gs hg (bl1 HB.out GE412.out); replace HB := ak (below_step (bl1 HB.out GE412.out) hb); have NB412_422 := nl hg BK412.out; have NB422_412 := ng hg BK412.out; replace BK412 := ak (blk_below (bk BK412.out) hb); clear hb hbox hg; have hnb9 := NB422_412.out; have hnc9 := NB412_422.out; obtain ⟨hcz10_0, hcz10_1, hcz10_2, hcz10_3, hfz10_0, hfz10_1, hfz10_2, hfz10_3⟩ := b4 BK422.out; obtain ⟨Ao11, co11, eo11⟩ := Kd.R_slice HO417.out; subst eo11; obtain ⟨Ao12, co12, eo12⟩ := Kd.R_slice HO420.out; subst eo12))
 (try simp only [Act.put, List.setIfInBounds_toArray, List.set_cons_zero, List.set_cons_succ])
 go_cut [29] (fun v29 wc => ∃ (kq : Nat) (x29_4 : Bool), v29 = .bool x29_4 ∧ Aside0 (spec_PlaySegmented.j0 kq l2 x29_4 t413 t414 t415 t418 = some (r1, r2, r3, r4, r5, r6)) ∧ Aside0 (kq ≤ k) ∧ Aside0 (Kd.R k45 45 wc w.heap.size (fun k_ => some k_ ≠ ((.slice Ao12 t418.length co12) : Value).ownBlock) (.slice Ao11 t415.length co11) t415) ∧ Aside0 (Kd.R k45 45 wc w.heap.size (fun k_ => some k_ ≠ ((.slice Ao11 t415.length co11) : Value).ownBlock) (.slice Ao12 t418.length co12) t418) ∧ Aside0 (wc.heap[gb412]? = some (.cells #[.int .i64 0, .int .i64 0, (.slice none 0 0), (.slice none 0 0)] 28 (0, 0))) ∧ Aside0 (wc.heap[gb422]? = some (.cells #[.int .i64 t413, .int .i64 t414, (.slice Ao11 t415.length co11), (.slice Ao12 t418.length co12)] 28 (0, 0))) ∧ Aside0 (Below w.heap.size w wc))
 case first =>
  have H := HC5.out
  clear HC5
  by_cases c13 : t421 = true
  ·subst c13
   have H1 : (spec_PlaySegmented.j0 k l2 (decide ((l2.length : Int) > 200)) t413 t414 t415 t418) = some (r1, r2, r3, r4, r5, r6) := by rw [if_pos rfl] at H; exact H
   clear H
   have H := H1
   clear H1
   have H' := ak H
   clear H
   go_wp2
   go_meet
   case rel => exact ⟨_, (decide ((l2.length : Int) > 200)), (by first | rfl | (simp; done) | (simp [*]; done)), H', ⟨by first | omega | exact Nat.le_refl _⟩, ⟨by (with_reducible repeat (first | apply Kd.R_alloc | apply Kd.R_drewN | apply Kd.R_drew)); exact Kd.R_mono (Kd.R_far (p := ⟨gb422, 3, none⟩) (Kd.R_far (p := ⟨gb422, 2, none⟩) (Kd.R_far (p := ⟨gb422, 1, none⟩) (Kd.R_far (p := ⟨gb422, 0, none⟩) (Kd.R_types HO417.out BK422.out (by decide)) (fun _ hk => hk.2) (.int .i64 t413)) (fun _ hk => hk.2) (.int .i64 t414)) (fun _ hk => hk.2) (.slice Ao11 t415.length co11)) (fun _ hk => hk.2) (.slice Ao12 t418.length co12)) (fun _ hk => hk.1)⟩, ⟨by (with_reducible repeat (first | apply Kd.R_alloc | apply Kd.R_drewN | apply Kd.R_drew)); exact Kd.R_mono (Kd.R_far (p := ⟨gb422, 3, none⟩) (Kd.R_far (p := ⟨gb422, 2, none⟩) (Kd.R_far (p := ⟨gb422, 1, none⟩) (Kd.R_far (p := ⟨gb422, 0, none⟩) (Kd.R_types HO420.out BK422.out (by decide)) (fun _ hk => hk.2) (.int .i64 t413)) (fun _ hk => hk.2) (.int .i64 t414)) (fun _ hk => hk.2) (.slice Ao11 t415.length co11)) (fun _ hk => hk.2) (.slice Ao12 t418.length co12)) (fun _ hk => hk.1)⟩, ⟨by (with_reducible repeat (first | refine blk_drewN ?_ _ | refine blk_drew ?_ | refine blk_alloc ?_ _)); refine blk_far ?_ NB412_422.out _; (with_reducible repeat (first | refine blk_drewN ?_ _ | refine blk_drew ?_ | refine blk_alloc ?_ _)); refine blk_far ?_ NB412_422.out _; (with_reducible repeat (first | refine blk_drewN ?_ _ | refine blk_drew ?_ | refine blk_alloc ?_ _)); refine blk_far ?_ NB412_422.out _; (with_reducible repeat (first | refine blk_drewN ?_ _ | refine blk_drew ?_ | refine blk_alloc ?_ _)); refine blk_far ?_ NB412_422.out _; exact bk BK412.out⟩, ⟨by (with_reducible repeat (first | refine blk_drewN ?_ _ | refine blk_drew ?_ | refine blk_alloc ?_ _)); refine blk_put (cs := #[.int .i64 t413, .int .i64 t414, .slice Ao11 t415.length co11, .slice none 0 0]) ?_ 3 _ rfl; (with_reducible repeat (first | refine blk_drewN ?_ _ | refine blk_drew ?_ | refine blk_alloc ?_ _)); refine blk_put (cs := #[.int .i64 t413, .int .i64 t414, .slice none 0 0, .slice none 0 0]) ?_ 2 _ rfl; (with_reducible repeat (first | refine blk_drewN ?_ _ | refine blk_drew ?_ | refine blk_alloc ?_ _)); refine blk_put (cs := #[.int .i64 t413, .int .i64 0, .slice none 0 0, .slice none 0 0]) ?_ 1 _ rfl; (with_reducible repeat (first | refine blk_drewN ?_ _ | refine blk_drew ?_ | refine blk_alloc ?_ _)); refine blk_put (cs := #[.int .i64 0, .int .i64 0, .slice none 0 0, .slice none 0 0]) ?_ 0 _ rfl; exact bk BK422.out⟩, ⟨bl2 HB.out GE412.out GE422.out⟩⟩
  ·replace c13 := Bool.eq_false_iff.mpr c13
   subst c13
   have H1 : (spec_PlaySegmented.j0 k l2 true t413 t414 t415 t418) = some (r1, r2, r3, r4, r5, r6) := by rw [if_neg (show ¬ (false = true) by decide)] at H; exact H
   clear H
   have H := H1
   clear H1
   have H' := ak H
   clear H
   go_wp2
   go_meet
   case rel => exact ⟨_, (true), (by first | rfl | (simp; done) | (simp [*]; done)), H', ⟨by first | omega | exact Nat.le_refl _⟩, ⟨by (with_reducible repeat (first | apply Kd.R_alloc | apply Kd.R_drewN | apply Kd.R_drew)); exact Kd.R_mono (Kd.R_far (p := ⟨gb422, 3, none⟩) (Kd.R_far (p := ⟨gb422, 2, none⟩) (Kd.R_far (p := ⟨gb422, 1, none⟩) (Kd.R_far (p := ⟨gb422, 0, none⟩) (Kd.R_types HO417.out BK422.out (by decide)) (fun _ hk => hk.2) (.int .i64 t413)) (fun _ hk => hk.2) (.int .i64 t414)) (fun _ hk => hk.2) (.slice Ao11 t415.length co11)) (fun _ hk => hk.2) (.slice Ao12 t418.length co12)) (fun _ hk => hk.1)⟩, ⟨by (with_reducible repeat (first | apply Kd.R_alloc | apply Kd.R_drewN | apply Kd.R_drew)); exact Kd.R_mono (Kd.R_far (p := ⟨gb422, 3, none⟩) (Kd.R_far (p := ⟨gb422, 2, none⟩) (Kd.R_far (p := ⟨gb422, 1, none⟩) (Kd.R_far (p := ⟨gb422, 0, none⟩) (Kd.R_types HO420.out BK422.out (by decide)) (fun _ hk => hk.2) (.int .i64 t413)) (fun _ hk => hk.2) (.int .i64 t414)) (fun _ hk => hk.2) (.slice Ao11 t415.length co11)) (fun _ hk => hk.2) (.slice Ao12 t418.length co12)) (fun _ hk => hk.1)⟩, ⟨by (with_reducible repeat (first | refine blk_drewN ?_ _ | refine blk_drew ?_ | refine blk_alloc ?_ _)); refine blk_far ?_ NB412_422.out _; (with_reducible repeat (first | refine blk_drewN ?_ _ | refine blk_drew ?_ | refine blk_alloc ?_ _)); refine blk_far ?_ NB412_422.out _; (with_reducible repeat (first | refine blk_drewN ?_ _ | refine blk_drew ?_ | refine blk_alloc ?_ _)); refine blk_far ?_ NB412_422.out _; (with_reducible repeat (first | refine blk_drewN ?_ _ | refine blk_drew ?_ | refine blk_alloc ?_ _)); refine blk_far ?_ NB412_422.out _; exact bk BK412.out⟩, ⟨by (with_reducible repeat (first | refine blk_drewN ?_ _ | refine blk_drew ?_ | refine blk_alloc ?_ _)); refine blk_put (cs := #[.int .i64 t413, .int .i64 t414, .slice Ao11 t415.length co11, .slice none 0 0]) ?_ 3 _ rfl; (with_reducible repeat (first | refine blk_drewN ?_ _ | refine blk_drew ?_ | refine blk_alloc ?_ _)); refine blk_put (cs := #[.int .i64 t413, .int .i64 t414, .slice none 0 0, .slice none 0 0]) ?_ 2 _ rfl; (with_reducible repeat (first | refine blk_drewN ?_ _ | refine blk_drew ?_ | refine blk_alloc ?_ _)); refine blk_put (cs := #[.int .i64 t413, .int .i64 0, .slice none 0 0, .slice none 0 0]) ?_ 1 _ rfl; (with_reducible repeat (first | refine blk_drewN ?_ _ | refine blk_drew ?_ | refine blk_alloc ?_ _)); refine blk_put (cs := #[.int .i64 0, .int .i64 0, .slice none 0 0, .slice none 0 0]) ?_ 0 _ rfl; exact bk BK422.out⟩, ⟨bl2 HB.out GE412.out GE422.out⟩⟩
 case rest =>
  clear HC5
  try clear c1
  try clear c2
  try clear p2
  try clear c5
  try clear c9
  try clear c13
  try clear hcz10_0
  try clear hcz10_1
  try clear hcz10_2
  try clear hcz10_3
  try clear hfz10_0
  try clear hfz10_1
  try clear hfz10_2
  try clear hfz10_3
  obtain ⟨kq, x29_4, rfl, HA, HJ4, HO_423002, HO_423003, BK412, BK422, HB⟩ := hcut
  cases kq with
  | zero => exact absurd HA.out (by simp [spec_PlaySegmented.j0])
  | succ kj4 =>
   have H := HA.out
   clear HA
   simp only [spec_PlaySegmented.j0] at H
   by_cases c14 : x29_4 = true
   ·subst c14
    have H1 : (some (0, 0, ([] : List (S45)), ([] : List (S45)), ([] : List ByteArray), false)) = some (r1, r2, r3, r4, r5, r6) := by rw [if_pos rfl] at H; exact H
    clear H
    have H := H1
    clear H1
    simp only [Option.some.injEq, Prod.mk.injEq] at H
    obtain ⟨rfl, rfl, rfl, rfl, rfl, rfl⟩ := H
    have hnb15 := NB412_422.out
    have hnc15 := NB422_412.out
    obtain ⟨hcz16_0, hcz16_1, hcz16_2, hcz16_3, hfz16_0, hfz16_1, hfz16_2, hfz16_3⟩ := b4 BK412.out
    go_wp2
    refine bodyPost_ret (results_ctt rfl _ _ gb412 28 #[.int .i64 0, .int .i64 0, .slice none 0 0, .slice none 0 0] (0, 0) _ rfl (bq BK412.out) Try.underlying28 rfl (by kernel_rfl)) rfl ?_
    exact ⟨_, _, _, by first | rfl | (simp [errW_none, errW_some] <;> rfl) | (simp [*, errW_none, errW_some] <;> rfl), by first | exact Kd.R_nil _ _ _ _ _ | exact Kd.N_nil _ _ _ _ _ | exact Kd.V_nil _ _ _ _ _ | exact Kd.Q_nil _ _ _ _ _ | exact Kd.S_nil _ _ _ _ _, by first | exact Kd.R_nil _ _ _ _ _ | exact Kd.N_nil _ _ _ _ _ | exact Kd.V_nil _ _ _ _ _ | exact Kd.Q_nil _ _ _ _ _ | exact Kd.S_nil _ _ _ _ _, by first | exact Kd.R_nil _ _ _ _ _ | exact Kd.N_nil _ _ _ _ _ | exact Kd.V_nil _ _ _ _ _ | exact Kd.Q_nil _ _ _ _ _ | exact Kd.S_nil _ _ _ _ _, bl2 HB.out GE412.out GE422.out⟩
   ·replace c14 := Bool.eq_false_iff.mpr c14
    subst c14
    have H1 : (spec_PlaySegmented.l0 kj4 ([] : List ByteArray) l2 (l2.length : Int) 0 t413 t414 t415 t418) = some (r1, r2, r3, r4, r5, r6) := by rw [if_neg (show ¬ (false = true) by decide)] at H; exact H
    clear H
    have H := H1
    clear H1
    have H' := ak H
    clear H
    go_wp2
    go_loopg [11, 33] kj4 (fun kq v11 v33 w' => ∃ (x11_2 : List ByteArray) (x33_2 : Int) (x413000_2 : Int) (x413001_2 : Int) (x423000_2 : Int) (x423001_2 : Int) (x423002_2 : List (S45)) (x423003_2 : List (S45)) (u423002 : Value) (u423003 : Value), v33 = .int .i64 x33_2 ∧ Aside0 (spec_PlaySegmented.l0 kq x11_2 l2 (l2.length : Int) x33_2 x423000_2 x423001_2 x423002_2 x423003_2 = some (r1, r2, r3, r4, r5, r6)) ∧ Aside0 (kq ≤ kj4) ∧ Aside0 (Kd.R Kd.string 9 w' w.heap.size (fun _ => True) v11 x11_2) ∧ Aside0 (Kd.R k45 45 w' w.heap.size (fun k_ => some k_ ≠ (u423003 : Value).ownBlock) u423002 x423002_2) ∧ Aside0 (Kd.R k45 45 w' w.heap.size (fun k_ => some k_ ≠ (u423002 : Value).ownBlock) u423003 x423003_2) ∧ Aside0 (w'.heap[gb412]? = some (.cells #[.int .i64 x413000_2, .int .i64 x413001_2, (.slice none 0 0), (.slice none 0 0)] 28 (0, 0))) ∧ Aside0 (w'.heap[gb422]? = some (.cells #[.int .i64 x423000_2, .int .i64 x423001_2, u423002, u423003] 28 (0, 0))) ∧ Aside0 (Below w.heap.size w w'))
    case atStart => exact ⟨(([] : List ByteArray)), (0), (0), (0), (t413), (t414), (t415), (t418), (.slice Ao11 t415.length co11), (.slice Ao12 t418.length co12), (by first | rfl | (simp; done) | (simp [*]; done)), H', ⟨Nat.le_refl _⟩, ⟨by first | exact Kd.R_nil _ _ _ _ _ | exact Kd.N_nil _ _ _ _ _ | exact Kd.V_nil _ _ _ _ _ | exact Kd.Q_nil _ _ _ _ _ | exact Kd.S_nil _ _ _ _ _⟩, ⟨kr HO_423002.out⟩, ⟨kr HO_423003.out⟩, ⟨bk BK412.out⟩, ⟨bk BK422.out⟩, ⟨bl2 HB.out GE412.out GE422.out⟩⟩
    case round =>
     clear H'
     try clear c1
     try clear c2
     try clear p2
     try clear c5
     try clear c9
     try clear c13
     try clear c14
     try clear c15
     try clear hcz10_0
     try clear hcz10_1
     try clear hcz10_2
     try clear hcz10_3
     try clear hcz16_0
     try clear hcz16_1
     try clear hcz16_2
     try clear hcz16_3
     try clear hfz10_0
     try clear hfz10_1
     try clear hfz10_2
     try clear hfz10_3
     try clear hfz16_0
     try clear hfz16_1
     try clear hfz16_2
     try clear hfz16_3
     try clear p2
     obtain ⟨x11_2, x33_2, x413000_2, x413001_2, x423000_2, x423001_2, x423002_2, x423003_2, u423002, u423003, rfl, HA, HK2, HO_11, HO_423002, HO_423003, BK412, BK422, HB⟩ := hrel
     cases gk with
     | zero => exact absurd HA.out (by simp [spec_PlaySegmented.l0])
     | succ k2 =>
      have H := HA.out
      clear HA
      simp only [spec_PlaySegmented.l0] at H
      by_cases c17 : x33_2 < (l2.length : Int)
      ·rw [if_pos c17] at H
       have c17b0 : decide (x33_2 < (l2.length : Int)) = true := decide_eq_true c17
       clear c17
       by_cases c18 : 0 ≤ x33_2
       ·rw [if_pos c18] at H
        have c18b0 : decide (0 ≤ x33_2) = true := decide_eq_true c18
        clear c18
        by_cases c19 : x33_2 < (l2.length : Int)
        ·rw [if_pos c19] at H
         have c19b0 : decide (x33_2 < (l2.length : Int)) = true := decide_eq_true c19
         clear c19
         replace H := Option.bind_eq_some_iff.mp H
         obtain ⟨t433, A200, H⟩ := H
         try dsimp only at H
         have A20 := ak A200
         clear A200
         by_cases c21 : t433 = true
         ·subst c21
          have H1 : (if ((rd_T45 l2 x33_2).f1).toList = ([] : List UInt8) then ((spec_l12Get.f k2 x423000_2 x423001_2 x423002_2 x423003_2 ((rd_T45 l2 x33_2).f0)).bind fun bt434 => (if x11_2.length < 8796093022208 then (spec_PlaySegmented.l0 k2 (x11_2 ++ [bt434.2.2.2.2.1]) l2 (l2.length : Int) (wrap64 (x33_2 + 1)) bt434.1 bt434.2.1 bt434.2.2.1 bt434.2.2.2.1) else (none))) else ((spec_l12Put.f k2 x423000_2 x423001_2 x423002_2 x423003_2 ((rd_T45 l2 x33_2).f0) ((rd_T45 l2 x33_2).f1)).bind fun bt448 => (spec_PlaySegmented.l0 k2 x11_2 l2 (l2.length : Int) (wrap64 (x33_2 + 1)) bt448.1 bt448.2.1 bt448.2.2.1 bt448.2.2.2.1))) = some (r1, r2, r3, r4, r5, r6) := by rw [if_pos rfl] at H; exact H
          clear H
          have H := H1
          clear H1
          by_cases c22 : ((rd_T45 l2 x33_2).f1).toList = ([] : List UInt8)
          ·rw [if_pos c22] at H
           have c22b0 : (((rd_T45 l2 x33_2).f1).toList == ([] : List UInt8)) = true := beq_iff_eq.mpr c22
           have c22b1 : (((rd_T45 l2 x33_2).f1).toList != ([] : List UInt8)) = false := bne_eq_false_iff_eq.mpr c22
           clear c22
           replace H := Option.bind_eq_some_iff.mp H
           obtain ⟨⟨t434, t435, t436, t439, t442, t443⟩, A230, H⟩ := H
           try dsimp only at H
           have A23 := ak A230
           clear A230
           by_cases c24 : x11_2.length < 8796093022208
           ·rw [if_pos c24] at H
            have LMc24 := ak c24
            clear c24
            obtain ⟨y445, hy445⟩ : ∃ y_ : List ByteArray, y_ = (x11_2 ++ [t442]) := ⟨_, rfl⟩
            replace H : (spec_PlaySegmented.l0 k2 y445 l2 (l2.length : Int) (wrap64 (x33_2 + 1)) t434 t435 t436 t439) = some (r1, r2, r3, r4, r5, r6) := by first | (rw [hy445]; with_reducible exact H) | (have H2_ := (Option.bind_some _ _).symm.trans H; rw [hy445]; with_reducible exact H2_) | (have H2_ := (Option.bind_some _ _).symm.trans H; with_reducible exact H2_) | with_reducible exact H | (rw [hy445]; exact H) | exact H
            have Ny445 := ak hy445
            clear hy445
            have H' := ak H
            clear H
            have p431 : 0 ≤ (x33_2 : Int) := od
            have q431 : x33_2 < (l2.length : Int) := od
            obtain ⟨ad431, e431, hx431_0, hx431_1⟩ := at_T45 HR2.out x33_2 p431 q431
            cases e431
            replace hx431_0 := (HB.out.cell (World.block_lt_of_cell? w _ hx431_0)).trans hx431_0
            replace hx431_1 := (HB.out.cell (World.block_lt_of_cell? w _ hx431_1)).trans hx431_1
            replace p431 := eq_true p431
            replace q431 := eq_true q431
            go_wp2_with (first | ((with_reducible refine gate_dst (N := 13) rfl ?_); (try (refine gate_guard (by rfl) ?_; dsimp only)); refine box_event ?hg (N := 13) ?hd (cs := #[.string (⟨#[]⟩ : ByteArray), .string (⟨#[]⟩ : ByteArray)]) (t := 45) ?hr ?_; (case hd => rfl); (case hg => rfl); (case hr => first | (go_simp; done) | (go_simp; rfl)); intro gb432 hg w25 hbox hb; replace HO_11 := ak (Kd.R_below (kr HO_11.out) hb); replace HO_423002 := ak (Kd.R_below (Kd.R_elderB (kr HO_423002.out) gb432 (Nat.le_of_eq hg.symm)) hb); replace HO_423003 := ak (Kd.R_below (Kd.R_elderB (kr HO_423003.out) gb432 (Nat.le_of_eq hg.symm)) hb); have BK432 := ak hbox; have GW432 := gs hg (bl2 HB.out GE412.out GE422.out); have GE432 := gs hg (bl2 HB.out GE412.out GE422.out); replace HB := ak (below_step (bl2 HB.out GE412.out GE422.out) hb); have NB412_432 := nl hg BK412.out; have NB432_412 := ng hg BK412.out; replace BK412 := ak (blk_below (bk BK412.out) hb); have NB422_432 := nl hg BK422.out; have NB432_422 := ng hg BK422.out; replace BK422 := ak (blk_below (bk BK422.out) hb); clear hb hbox hg; have hnb26 := NB432_412.out; have hnc26 := NB412_432.out; have hnb27 := NB432_422.out; have hnc27 := NB422_432.out; obtain ⟨hcz28_0, hcz28_1, hfz28_0, hfz28_1⟩ := b2 BK432.out) | (refine gL 55 Try.func55 (some 38) #[.agg #[.string ((rd_T45 l2 x33_2).f0), .string ((rd_T45 l2 x33_2).f1)]] ?_; (with_reducible refine (spec_l12Entry.calls ((rd_T45 l2 x33_2).f0) ((rd_T45 l2 x33_2).f1) true _ A20.out).mono ?_); rintro e w29 ⟨rfl, hb⟩; refine ⟨_, rfl, ?_⟩; replace HO_11 := ak (Kd.R_below (by (with_reducible repeat (first | apply Kd.R_alloc | apply Kd.R_drewN | apply Kd.R_drew)); exact (Kd.R_mono (Kd.R_far (p := ⟨gb432, 1, none⟩) (Kd.R_far (p := ⟨gb432, 0, none⟩) (Kd.R_types HO_11.out BK432.out (by decide)) (fun _ hk => hk.2) (.string ((rd_T45 l2 x33_2).f0))) (fun _ hk => hk.2) (.string ((rd_T45 l2 x33_2).f1))) (fun _ h_ => h_.1))) hb); replace HO_423002 := ak (Kd.R_below (by (with_reducible repeat (first | apply Kd.R_alloc | apply Kd.R_drewN | apply Kd.R_drew)); exact (Kd.R_mono (Kd.R_far (p := ⟨gb432, 1, none⟩) (Kd.R_far (p := ⟨gb432, 0, none⟩) (Kd.R_mono HO_423002.out (fun k_ hk => (⟨hk, hk.2⟩ : _ ∧ k_ ≠ gb432))) (fun _ hk => hk.2) (.string ((rd_T45 l2 x33_2).f0))) (fun _ hk => hk.2) (.string ((rd_T45 l2 x33_2).f1))) (fun _ h_ => h_.1))) hb); replace HO_423003 := ak (Kd.R_below (by (with_reducible repeat (first | apply Kd.R_alloc | apply Kd.R_drewN | apply Kd.R_drew)); exact (Kd.R_mono (Kd.R_far (p := ⟨gb432, 1, none⟩) (Kd.R_far (p := ⟨gb432, 0, none⟩) (Kd.R_mono HO_423003.out (fun k_ hk => (⟨hk, hk.2⟩ : _ ∧ k_ ≠ gb432))) (fun _ hk => hk.2) (.string ((rd_T45 l2 x33_2).f0))) (fun _ hk => hk.2) (.string ((rd_T45 l2 x33_2).f1))) (fun _ h_ => h_.1))) hb); replace BK412 := ak (blk_below (g := gb412) (o := .cells #[.int .i64 x413000_2, .int .i64 x413001_2, .slice none 0 0, .slice none 0 0] 28 (0, 0)) (bq BK412.out) hb); replace BK422 := ak (blk_below (g := gb422) (o := .cells #[.int .i64 x423000_2, .int .i64 x423001_2, u423002, u423003] 28 (0, 0)) (bq BK422.out) hb); replace BK432 := ak (blk_below (g := gb432) (o := .cells #[.string ((rd_T45 l2 x33_2).f0), .string ((rd_T45 l2 x33_2).f1)] 45 (0, 0)) (bq BK432.out) hb); replace HB := ak (below_step (bl3 HB.out GE412.out GE422.out GE432.out) hb); clear hb; obtain ⟨hcz30_0, hcz30_1, hfz30_0, hfz30_1⟩ := b2 BK432.out; have hnb31 := NB422_412.out; have hnc31 := NB412_422.out; obtain ⟨hcz32_0, hcz32_1, hcz32_2, hcz32_3, hfz32_0, hfz32_1, hfz32_2, hfz32_3⟩ := b4 BK422.out; obtain ⟨Ao33, co33, eo33⟩ := Kd.R_slice HO_423002.out; subst eo33; obtain ⟨Ao34, co34, eo34⟩ := Kd.R_slice HO_423003.out; subst eo34) | (refine gL 57 Try.func57 (some 54) #[.agg #[.int .i64 x423000_2, .int .i64 x423001_2, .slice Ao33 x423002_2.length co33, .slice Ao34 x423003_2.length co34], .string ((rd_T45 l2 x33_2).f0)] ?_; (with_reducible refine (spec_l12Get.calls k2 x423000_2 x423001_2 (fun k_ => some k_ = (.slice Ao33 x423002_2.length co33 : Value).ownBlock) (.slice Ao33 x423002_2.length co33) x423002_2 (fun k_ => some k_ = (.slice Ao34 x423003_2.length co34 : Value).ownBlock) (.slice Ao34 x423003_2.length co34) x423003_2 ((rd_T45 l2 x33_2).f0) t434 t435 t436 t439 t442 t443 w _ ?side1 ?side2 ?side3 ?side4 ?side5 A23.out).mono ?_); (case side1 => exact bl3 HB.out GE412.out GE422.out GE432.out); (case side2 => exact Kd.R_tight rfl HO_423002.out); (case side3 => exact fun k_ e_ => (HO_423002.out.1 k_ e_.symm).1); (case side4 => exact Kd.R_tight rfl HO_423003.out); (case side5 => exact fun k_ e_ => (HO_423003.out.1 k_ e_.symm).1); rintro e w35 ⟨v437, v440, rfl, ho0, ho1, hb, hkp⟩; refine ⟨_, rfl, ?_⟩; replace HO_11 := ak (Kd.R_mono (ok' := fun k_ => True) (Kd.R_keptB ((Kd.R_apart' (Kd.R_apart' HO_11.out (Kd.R_typed HO_423002.out) (by decide)) (Kd.R_typed HO_423003.out) (by decide))) hkp (fun k_ hk_ hs_ => Or.elim hs_ (fun e_ => (hk_.1.2) e_) (fun e_ => (hk_.2) e_))) (fun k_ hk_ => trivial)); replace BK412 := ak (blk_kept (bk BK412.out) hkp (fun hs_ => Or.elim hs_ (fun e_ => (fun e_ => (Kd.R_ne HO_423002.out BK412.out (by decide)) e_) e_) (fun e_ => (fun e_ => (Kd.R_ne HO_423003.out BK412.out (by decide)) e_) e_))); replace BK422 := ak (blk_kept (bk BK422.out) hkp (fun hs_ => Or.elim hs_ (fun e_ => (fun e_ => (Kd.R_ne HO_423002.out BK422.out (by decide)) e_) e_) (fun e_ => (fun e_ => (Kd.R_ne HO_423003.out BK422.out (by decide)) e_) e_))); have HO438 := ak (Kd.R_mono (ok' := fun k_ => some k_ ≠ (v440 : Value).ownBlock ∧ k_ ≠ gb432) ho0 (fun k_ hk_ => ⟨hk_.2, Or.elim hk_.1 (fun hs_ => Or.elim hs_ (fun hs_ => fun e_ => (Kd.R_away HO_423002.out (fun _ hk => hk.2)) (by rw [← e_]; exact hs_)) (fun hs_ => fun e_ => (Kd.R_away HO_423003.out (fun _ hk => hk.2)) (by rw [← e_]; exact hs_))) (fun hn_ => (Kd.freshB (bk BK432.out) k_ hn_))⟩)); have HO441 := ak (Kd.R_mono (ok' := fun k_ => some k_ ≠ (v437 : Value).ownBlock ∧ k_ ≠ gb432) ho1 (fun k_ hk_ => ⟨hk_.2, Or.elim hk_.1 (fun hs_ => Or.elim hs_ (fun hs_ => fun e_ => (Kd.R_away HO_423002.out (fun _ hk => hk.2)) (by rw [← e_]; exact hs_)) (fun hs_ => fun e_ => (Kd.R_away HO_423003.out (fun _ hk => hk.2)) (by rw [← e_]; exact hs_))) (fun hn_ => (Kd.freshB (bk BK432.out) k_ hn_))⟩)); replace BK432 := ak (blk_kept (bk BK432.out) hkp (fun hs_ => Or.elim hs_ (fun e_ => (fun e_ => (Kd.R_away HO_423002.out (fun _ hk => hk.2)) e_) e_) (fun e_ => (fun e_ => (Kd.R_away HO_423003.out (fun _ hk => hk.2)) e_) e_))); replace HB := ak hb; clear HO_423002 HO_423003; clear hb hkp ho0 ho1) | ((with_reducible refine gate_dst (N := 14) rfl ?_); (try (refine gate_guard (by rfl) ?_; dsimp only)); refine box_event ?hg (N := 14) ?hd (cs := #[.int .i64 0, .int .i64 0, .slice none 0 0, .slice none 0 0]) (t := 28) ?hr ?_; (case hd => rfl); (case hg => rfl); (case hr => first | (go_simp; done) | (go_simp; rfl)); intro gb444 hg w36 hbox hb; replace HO_11 := ak (Kd.R_below (kr HO_11.out) hb); replace HO438 := ak (Kd.R_below (kr HO438.out) hb); replace HO441 := ak (Kd.R_below (kr HO441.out) hb); have BK444 := ak hbox; have GW444 := gs hg (bl3 HB.out GE412.out GE422.out GE432.out); have GE444 := gs hg (bl3 HB.out GE412.out GE422.out GE432.out); replace HB := ak (below_step (bl3 HB.out GE412.out GE422.out GE432.out) hb); have NB412_444 := nl hg BK412.out; have NB444_412 := ng hg BK412.out; replace BK412 := ak (blk_below (bk BK412.out) hb); have NB422_444 := nl hg BK422.out; have NB444_422 := ng hg BK422.out; replace BK422 := ak (blk_below (bk BK422.out) hb); have NB432_444 := nl hg BK432.out; have NB444_432 := ng hg BK432.out; replace BK432 := ak (blk_below (bk BK432.out) hb); clear hb hbox hg; have hnb37 := NB444_412.out; have hnc37 := NB412_444.out; have hnb38 := NB444_422.out; have hnc38 := NB422_444.out; have hnb39 := NB444_432.out; have hnc39 := NB432_444.out; obtain ⟨hcz40_0, hcz40_1, hcz40_2, hcz40_3, hfz40_0, hfz40_1, hfz40_2, hfz40_3⟩ := b4 BK444.out; obtain ⟨Ao41, co41, eo41⟩ := Kd.R_slice HO438.out; subst eo41; obtain ⟨Ao42, co42, eo42⟩ := Kd.R_slice HO441.out; subst eo42; obtain ⟨hcz43_0, hcz43_1, hcz43_2, hcz43_3, hfz43_0, hfz43_1, hfz43_2, hfz43_3⟩ := b4 BK422.out) | ((with_reducible refine gate_builtin (b := .append) (xs := #[.tmp 59, .tmp 61]) rfl ?_); (try (refine gate_guard (by rfl) ?_; dsimp only)); at_builtin; refine Kd.R_append Kd.string (w0 := w) w.heap.size rfl (.tmp 59) (.tmp 61) 38 9 (.string ⟨#[]⟩) 16 rfl Try.underlying38 info9 rfl (by decide) (by omega) u11 x11_2 t442 [.string t442] (fun _ => True) (fun _ => False) rfl (by first | (go_simp; done) | (go_simp; rfl)) ?aP (fun _ hk => hk.elim) ?aF ?aO ?aB ?aS ?aL ?_; (case aP => exact rfl); (case aB => exact (bl4 HB.out GE412.out GE422.out GE432.out GE444.out)); (case aF => exact (fun _ _ => trivial)); (case aO => exact (by (with_reducible repeat (first | apply Kd.R_alloc | apply Kd.R_drewN | apply Kd.R_drew)); exact Kd.R_mono (Kd.R_far (p := ⟨gb422, 3, none⟩) (Kd.R_far (p := ⟨gb422, 2, none⟩) (Kd.R_far (p := ⟨gb422, 1, none⟩) (Kd.R_far (p := ⟨gb422, 0, none⟩) (Kd.R_far (p := ⟨gb444, 3, none⟩) (Kd.R_far (p := ⟨gb444, 2, none⟩) (Kd.R_far (p := ⟨gb444, 1, none⟩) (Kd.R_far (p := ⟨gb444, 0, none⟩) (Kd.R_types (Kd.R_types HO_11.out BK444.out (by decide)) BK422.out (by decide)) (fun _ hk => hk.1.2) (.int .i64 t434)) (fun _ hk => hk.1.2) (.int .i64 t435)) (fun _ hk => hk.1.2) (.slice Ao41 t436.length co41)) (fun _ hk => hk.1.2) (.slice Ao42 t439.length co42)) (fun _ hk => hk.2) (.int .i64 t434)) (fun _ hk => hk.2) (.int .i64 t435)) (fun _ hk => hk.2) (.slice Ao41 t436.length co41)) (fun _ hk => hk.2) (.slice Ao42 t439.length co42)) (fun _ hk => trivial))); (case aS => exact (below_size (bl4 HB.out GE412.out GE422.out GE432.out GE444.out))); (case aL => have := LMc24.out; omega); intro v446 w44 ho hb hg hat; rw [← Ny445.out] at ho; replace BK412 := ak (blk_grown (g := gb412) (o := .cells #[.int .i64 x413000_2, .int .i64 x413001_2, .slice none 0 0, .slice none 0 0] 28 (0, 0)) (bq BK412.out) hg (Kd.R_ne HO_11.out BK412.out (by decide))); replace BK432 := ak (blk_grown (g := gb432) (o := .cells #[.string ((rd_T45 l2 x33_2).f0), .string ((rd_T45 l2 x33_2).f1)] 45 (0, 0)) (bq BK432.out) hg (Kd.R_ne HO_11.out BK432.out (by decide))); replace HO438 := ak (Kd.R_over' (by (with_reducible repeat (first | apply Kd.R_alloc | apply Kd.R_drewN | apply Kd.R_drew)); exact (Kd.R_mono (Kd.R_mono (Kd.R_far (p := ⟨gb422, 3, none⟩) (Kd.R_far (p := ⟨gb422, 2, none⟩) (Kd.R_far (p := ⟨gb422, 1, none⟩) (Kd.R_far (p := ⟨gb422, 0, none⟩) (Kd.R_far (p := ⟨gb444, 3, none⟩) (Kd.R_far (p := ⟨gb444, 2, none⟩) (Kd.R_far (p := ⟨gb444, 1, none⟩) (Kd.R_far (p := ⟨gb444, 0, none⟩) (Kd.R_types (Kd.R_types HO438.out BK444.out (by decide)) BK422.out (by decide)) (fun _ hk => hk.1.2) (.int .i64 t434)) (fun _ hk => hk.1.2) (.int .i64 t435)) (fun _ hk => hk.1.2) (.slice Ao41 t436.length co41)) (fun _ hk => hk.1.2) (.slice Ao42 t439.length co42)) (fun _ hk => hk.2) (.int .i64 t434)) (fun _ hk => hk.2) (.int .i64 t435)) (fun _ hk => hk.2) (.slice Ao41 t436.length co41)) (fun _ hk => hk.2) (.slice Ao42 t439.length co42)) (fun _ h_ => h_.1)) (fun _ h_ => h_.1))) (Kd.R_typed (by (with_reducible repeat (first | apply Kd.R_alloc | apply Kd.R_drewN | apply Kd.R_drew)); exact (Kd.R_mono (Kd.R_mono (Kd.R_far (p := ⟨gb422, 3, none⟩) (Kd.R_far (p := ⟨gb422, 2, none⟩) (Kd.R_far (p := ⟨gb422, 1, none⟩) (Kd.R_far (p := ⟨gb422, 0, none⟩) (Kd.R_far (p := ⟨gb444, 3, none⟩) (Kd.R_far (p := ⟨gb444, 2, none⟩) (Kd.R_far (p := ⟨gb444, 1, none⟩) (Kd.R_far (p := ⟨gb444, 0, none⟩) (Kd.R_types (Kd.R_types HO_11.out BK444.out (by decide)) BK422.out (by decide)) (fun _ hk => hk.1.2) (.int .i64 t434)) (fun _ hk => hk.1.2) (.int .i64 t435)) (fun _ hk => hk.1.2) (.slice Ao41 t436.length co41)) (fun _ hk => hk.1.2) (.slice Ao42 t439.length co42)) (fun _ hk => hk.2) (.int .i64 t434)) (fun _ hk => hk.2) (.int .i64 t435)) (fun _ hk => hk.2) (.slice Ao41 t436.length co41)) (fun _ hk => hk.2) (.slice Ao42 t439.length co42)) (fun _ h_ => h_.1)) (fun _ h_ => h_.1)))) (by decide) hg); replace HO441 := ak (Kd.R_over' (by (with_reducible repeat (first | apply Kd.R_alloc | apply Kd.R_drewN | apply Kd.R_drew)); exact (Kd.R_mono (Kd.R_mono (Kd.R_far (p := ⟨gb422, 3, none⟩) (Kd.R_far (p := ⟨gb422, 2, none⟩) (Kd.R_far (p := ⟨gb422, 1, none⟩) (Kd.R_far (p := ⟨gb422, 0, none⟩) (Kd.R_far (p := ⟨gb444, 3, none⟩) (Kd.R_far (p := ⟨gb444, 2, none⟩) (Kd.R_far (p := ⟨gb444, 1, none⟩) (Kd.R_far (p := ⟨gb444, 0, none⟩) (Kd.R_types (Kd.R_types HO441.out BK444.out (by decide)) BK422.out (by decide)) (fun _ hk => hk.1.2) (.int .i64 t434)) (fun _ hk => hk.1.2) (.int .i64 t435)) (fun _ hk => hk.1.2) (.slice Ao41 t436.length co41)) (fun _ hk => hk.1.2) (.slice Ao42 t439.length co42)) (fun _ hk => hk.2) (.int .i64 t434)) (fun _ hk => hk.2) (.int .i64 t435)) (fun _ hk => hk.2) (.slice Ao41 t436.length co41)) (fun _ hk => hk.2) (.slice Ao42 t439.length co42)) (fun _ h_ => h_.1)) (fun _ h_ => h_.1))) (Kd.R_typed (by (with_reducible repeat (first | apply Kd.R_alloc | apply Kd.R_drewN | apply Kd.R_drew)); exact (Kd.R_mono (Kd.R_mono (Kd.R_far (p := ⟨gb422, 3, none⟩) (Kd.R_far (p := ⟨gb422, 2, none⟩) (Kd.R_far (p := ⟨gb422, 1, none⟩) (Kd.R_far (p := ⟨gb422, 0, none⟩) (Kd.R_far (p := ⟨gb444, 3, none⟩) (Kd.R_far (p := ⟨gb444, 2, none⟩) (Kd.R_far (p := ⟨gb444, 1, none⟩) (Kd.R_far (p := ⟨gb444, 0, none⟩) (Kd.R_types (Kd.R_types HO_11.out BK444.out (by decide)) BK422.out (by decide)) (fun _ hk => hk.1.2) (.int .i64 t434)) (fun _ hk => hk.1.2) (.int .i64 t435)) (fun _ hk => hk.1.2) (.slice Ao41 t436.length co41)) (fun _ hk => hk.1.2) (.slice Ao42 t439.length co42)) (fun _ hk => hk.2) (.int .i64 t434)) (fun _ hk => hk.2) (.int .i64 t435)) (fun _ hk => hk.2) (.slice Ao41 t436.length co41)) (fun _ hk => hk.2) (.slice Ao42 t439.length co42)) (fun _ h_ => h_.1)) (fun _ h_ => h_.1)))) (by decide) hg); replace BK422 := ak (blk_grown (g := gb422) (o := .cells #[.int .i64 t434, .int .i64 t435, .slice Ao41 t436.length co41, .slice Ao42 t439.length co42] 28 (0, 0)) (bq BK422.out) hg (Kd.R_ne HO_11.out BK422.out (by decide))); replace BK444 := ak (blk_grown (g := gb444) (o := .cells #[.int .i64 t434, .int .i64 t435, .slice Ao41 t436.length co41, .slice Ao42 t439.length co42] 28 (0, 0)) (bq BK444.out) hg (Kd.R_ne HO_11.out BK444.out (by decide))); replace HB := ak hb; have HO447 := ak ho; clear HO_11; clear ho hb hg hat))
            go_roundg k2
            case measure => have := HJ4.out; have := HK2.out; omega
            case rel => exact ⟨(y445), (wrap64 (x33_2 + 1)), (x413000_2), (x413001_2), (t434), (t435), (t436), (t439), (.slice Ao41 t436.length co41), (.slice Ao42 t439.length co42), (by first | rfl | (simp; done) | (simp [*]; done)), H', ⟨by have := HJ4.out; have := HK2.out; omega⟩, ⟨kr HO447.out⟩, ⟨by (with_reducible repeat (first | apply Kd.R_alloc | apply Kd.R_drewN | apply Kd.R_drew)); exact Kd.R_mono HO438.out (fun _ hk => hk.1)⟩, ⟨by (with_reducible repeat (first | apply Kd.R_alloc | apply Kd.R_drewN | apply Kd.R_drew)); exact Kd.R_mono HO441.out (fun _ hk => hk.1)⟩, ⟨bk BK412.out⟩, ⟨bk BK422.out⟩, ⟨bl4 HB.out GE412.out GE422.out GE432.out GE444.out⟩⟩
           ·rw [if_neg c24] at H
            exact absurd H (by simp)
          ·rw [if_neg c22] at H
           have c22b0 : (((rd_T45 l2 x33_2).f1).toList == ([] : List UInt8)) = false := beq_eq_false_iff_ne.mpr c22
           have c22b1 : (((rd_T45 l2 x33_2).f1).toList != ([] : List UInt8)) = true := bne_iff_ne.mpr c22
           replace H := Option.bind_eq_some_iff.mp H
           obtain ⟨⟨t448, t449, t450, t453, t456⟩, A450, H⟩ := H
           try dsimp only at H
           have A45 := ak A450
           clear A450
           have H' := ak H
           clear H
           have p431 : 0 ≤ (x33_2 : Int) := od
           have q431 : x33_2 < (l2.length : Int) := od
           obtain ⟨ad431, e431, hx431_0, hx431_1⟩ := at_T45 HR2.out x33_2 p431 q431
           cases e431
           replace hx431_0 := (HB.out.cell (World.block_lt_of_cell? w _ hx431_0)).trans hx431_0
           replace hx431_1 := (HB.out.cell (World.block_lt_of_cell? w _ hx431_1)).trans hx431_1
           replace p431 := eq_true p431
           replace q431 := eq_true q431
           go_wp2_with (first | ((with_reducible refine gate_dst (N := 13) rfl ?_); (try (refine gate_guard (by rfl) ?_; dsimp only)); refine box_event ?hg (N := 13) ?hd (cs := #[.string (⟨#[]⟩ : ByteArray), .string (⟨#[]⟩ : ByteArray)]) (t := 45) ?hr ?_; (case hd => rfl); (case hg => rfl); (case hr => first | (go_simp; done) | (go_simp; rfl)); intro gb432 hg w46 hbox hb; replace HO_11 := ak (Kd.R_below (kr HO_11.out) hb); replace HO_423002 := ak (Kd.R_below (Kd.R_elderB (kr HO_423002.out) gb432 (Nat.le_of_eq hg.symm)) hb); replace HO_423003 := ak (Kd.R_below (Kd.R_elderB (kr HO_423003.out) gb432 (Nat.le_of_eq hg.symm)) hb); have BK432 := ak hbox; have GW432 := gs hg (bl2 HB.out GE412.out GE422.out); have GE432 := gs hg (bl2 HB.out GE412.out GE422.out); replace HB := ak (below_step (bl2 HB.out GE412.out GE422.out) hb); have NB412_432 := nl hg BK412.out; have NB432_412 := ng hg BK412.out; replace BK412 := ak (blk_below (bk BK412.out) hb); have NB422_432 := nl hg BK422.out; have NB432_422 := ng hg BK422.out; replace BK422 := ak (blk_below (bk BK422.out) hb); clear hb hbox hg; have hnb47 := NB432_412.out; have hnc47 := NB412_432.out; have hnb48 := NB432_422.out; have hnc48 := NB422_432.out; obtain ⟨hcz49_0, hcz49_1, hfz49_0, hfz49_1⟩ := b2 BK432.out) | (refine gL 55 Try.func55 (some 38) #[.agg #[.string ((rd_T45 l2 x33_2).f0), .string ((rd_T45 l2 x33_2).f1)]] ?_; (with_reducible refine (spec_l12Entry.calls ((rd_T45 l2 x33_2).f0) ((rd_T45 l2 x33_2).f1) true _ A20.out).mono ?_); rintro e w50 ⟨rfl, hb⟩; refine ⟨_, rfl, ?_⟩; replace HO_11 := ak (Kd.R_below (by (with_reducible repeat (first | apply Kd.R_alloc | apply Kd.R_drewN | apply Kd.R_drew)); exact (Kd.R_mono (Kd.R_far (p := ⟨gb432, 1, none⟩) (Kd.R_far (p := ⟨gb432, 0, none⟩) (Kd.R_types HO_11.out BK432.out (by decide)) (fun _ hk => hk.2) (.string ((rd_T45 l2 x33_2).f0))) (fun _ hk => hk.2) (.string ((rd_T45 l2 x33_2).f1))) (fun _ h_ => h_.1))) hb); replace HO_423002 := ak (Kd.R_below (by (with_reducible repeat (first | apply Kd.R_alloc | apply Kd.R_drewN | apply Kd.R_drew)); exact (Kd.R_mono (Kd.R_far (p := ⟨gb432, 1, none⟩) (Kd.R_far (p := ⟨gb432, 0, none⟩) (Kd.R_mono HO_423002.out (fun k_ hk => (⟨hk, hk.2⟩ : _ ∧ k_ ≠ gb432))) (fun _ hk => hk.2) (.string ((rd_T45 l2 x33_2).f0))) (fun _ hk => hk.2) (.string ((rd_T45 l2 x33_2).f1))) (fun _ h_ => h_.1))) hb); replace HO_423003 := ak (Kd.R_below (by (with_reducible repeat (first | apply Kd.R_alloc | apply Kd.R_drewN | apply Kd.R_drew)); exact (Kd.R_mono (Kd.R_far (p := ⟨gb432, 1, none⟩) (Kd.R_far (p := ⟨gb432, 0, none⟩) (Kd.R_mono HO_423003.out (fun k_ hk => (⟨hk, hk.2⟩ : _ ∧ k_ ≠ gb432))) (fun _ hk => hk.2) (.string ((rd_T45 l2 x33_2).f0))) (fun _ hk => hk.2) (.string ((rd_T45 l2 x33_2).f1))) (fun _ h_ => h_.1))) hb); replace BK412 := ak (blk_below (g := gb412) (o := .cells #[.int .i64 x413000_2, .int .i64 x413001_2, .slice none 0 0, .slice none 0 0] 28 (0, 0)) (bq BK412.out) hb); replace BK422 := ak (blk_below (g := gb422) (o := .cells #[.int .i64 x423000_2, .int .i64 x423001_2, u423002, u423003] 28 (0, 0)) (bq BK422.out) hb); replace BK432 := ak (blk_below (g := gb432) (o := .cells #[.string ((rd_T45 l2 x33_2).f0), .string ((rd_T45 l2 x33_2).f1)] 45 (0, 0)) (bq BK432.out) hb); replace HB := ak (below_step (bl3 HB.out GE412.out GE422.out GE432.out) hb); clear hb; obtain ⟨hcz51_0, hcz51_1, hfz51_0, hfz51_1⟩ := b2 BK432.out; have hnb52 := NB422_412.out; have hnc52 := NB412_422.out; obtain ⟨hcz53_0, hcz53_1, hcz53_2, hcz53_3, hfz53_0, hfz53_1, hfz53_2, hfz53_3⟩ := b4 BK422.out; obtain ⟨Ao54, co54, eo54⟩ := Kd.R_slice HO_423002.out; subst eo54; obtain ⟨Ao55, co55, eo55⟩ := Kd.R_slice HO_423003.out; subst eo55) | (refine gL 56 Try.func56 (some 47) #[.agg #[.int .i64 x423000_2, .int .i64 x423001_2, .slice Ao54 x423002_2.length co54, .slice Ao55 x423003_2.length co55], .agg #[.string ((rd_T45 l2 x33_2).f0), .string ((rd_T45 l2 x33_2).f1)]] ?_; (with_reducible refine (spec_l12Put.calls k2 x423000_2 x423001_2 _ _ x423002_2 _ _ x423003_2 ((rd_T45 l2 x33_2).f0) ((rd_T45 l2 x33_2).f1) t448 t449 t450 t453 t456 _ ?side1 ?side2 ?side3 ?side4 A45.out).mono ?_); (case side1 => exact kc (Kd.R_reads' HO_423002.out).2.2); (case side2 => exact (Kd.R_reads' HO_423002.out).2.1); (case side3 => exact kc (Kd.R_reads' HO_423003.out).2.2); (case side4 => exact (Kd.R_reads' HO_423003.out).2.1); rintro e w56 ⟨v451, v454, v457, rfl, ho0, ho1, ho2, hb⟩; refine ⟨_, rfl, ?_⟩; replace HO_11 := ak (Kd.R_below (kr HO_11.out) hb); have HO452 := ak (Kd.R_lower (Kd.R_newB (Kd.R_new' (Kd.R_new' ho0 (Kd.R_lt (kr HO_423002.out))) (Kd.R_lt (kr HO_423003.out))) (bk BK432.out)) (below_size (bl3 HB.out GE412.out GE422.out GE432.out))); have HO455 := ak (Kd.R_lower (Kd.R_newB (Kd.R_new' (Kd.R_new' ho1 (Kd.R_lt (kr HO_423002.out))) (Kd.R_lt (kr HO_423003.out))) (bk BK432.out)) (below_size (bl3 HB.out GE412.out GE422.out GE432.out))); have HO458 := ak (Kd.R_lower (Kd.R_newB (Kd.R_new' (Kd.R_new' ho2 (Kd.R_lt (kr HO_423002.out))) (Kd.R_lt (kr HO_423003.out))) (bk BK432.out)) (below_size (bl3 HB.out GE412.out GE422.out GE432.out))); replace HO_423002 := ak (Kd.R_mono (Kd.R_told (Kd.R_told (Kd.R_told (Kd.R_old (kr HO_423002.out) hb) (Kd.R_base ho0)) (Kd.R_base ho1)) (Kd.R_base ho2)) (fun _ h_ => h_.1)); replace HO_423003 := ak (Kd.R_mono (Kd.R_told (Kd.R_told (Kd.R_told (Kd.R_old (kr HO_423003.out) hb) (Kd.R_base ho0)) (Kd.R_base ho1)) (Kd.R_base ho2)) (fun _ h_ => h_.1)); replace BK412 := ak (blk_below (bk BK412.out) hb); replace BK422 := ak (blk_below (bk BK422.out) hb); replace BK432 := ak (blk_below (bk BK432.out) hb); replace HB := ak (below_step (bl3 HB.out GE412.out GE422.out GE432.out) hb); clear hb ho0 ho1 ho2; obtain ⟨hcz57_0, hcz57_1, hcz57_2, hcz57_3, hfz57_0, hfz57_1, hfz57_2, hfz57_3⟩ := b4 BK422.out; obtain ⟨Ao58, co58, eo58⟩ := Kd.R_slice HO452.out; subst eo58; obtain ⟨Ao59, co59, eo59⟩ := Kd.R_slice HO455.out; subst eo59))
           go_roundg k2
           case measure => have := HJ4.out; have := HK2.out; omega
           case rel => exact ⟨(x11_2), (wrap64 (x33_2 + 1)), (x413000_2), (x413001_2), (t448), (t449), (t450), (t453), (.slice Ao58 t450.length co58), (.slice Ao59 t453.length co59), (by first | rfl | (simp; done) | (simp [*]; done)), H', ⟨by have := HJ4.out; have := HK2.out; omega⟩, ⟨by (with_reducible repeat (first | apply Kd.R_alloc | apply Kd.R_drewN | apply Kd.R_drew)); exact Kd.R_mono (Kd.R_far (p := ⟨gb422, 3, none⟩) (Kd.R_far (p := ⟨gb422, 2, none⟩) (Kd.R_far (p := ⟨gb422, 1, none⟩) (Kd.R_far (p := ⟨gb422, 0, none⟩) (Kd.R_types HO_11.out BK422.out (by decide)) (fun _ hk => hk.2) (.int .i64 t448)) (fun _ hk => hk.2) (.int .i64 t449)) (fun _ hk => hk.2) (.slice Ao58 t450.length co58)) (fun _ hk => hk.2) (.slice Ao59 t453.length co59)) (fun _ hk => trivial)⟩, ⟨by (with_reducible repeat (first | apply Kd.R_alloc | apply Kd.R_drewN | apply Kd.R_drew)); exact Kd.R_mono (Kd.R_far (p := ⟨gb422, 3, none⟩) (Kd.R_far (p := ⟨gb422, 2, none⟩) (Kd.R_far (p := ⟨gb422, 1, none⟩) (Kd.R_far (p := ⟨gb422, 0, none⟩) (Kd.R_types HO452.out BK422.out (by decide)) (fun _ hk => hk.2) (.int .i64 t448)) (fun _ hk => hk.2) (.int .i64 t449)) (fun _ hk => hk.2) (.slice Ao58 t450.length co58)) (fun _ hk => hk.2) (.slice Ao59 t453.length co59)) (fun _ hk => hk.1.1.1.1.1)⟩, ⟨by (with_reducible repeat (first | apply Kd.R_alloc | apply Kd.R_drewN | apply Kd.R_drew)); exact Kd.R_mono (Kd.R_far (p := ⟨gb422, 3, none⟩) (Kd.R_far (p := ⟨gb422, 2, none⟩) (Kd.R_far (p := ⟨gb422, 1, none⟩) (Kd.R_far (p := ⟨gb422, 0, none⟩) (Kd.R_types HO455.out BK422.out (by decide)) (fun _ hk => hk.2) (.int .i64 t448)) (fun _ hk => hk.2) (.int .i64 t449)) (fun _ hk => hk.2) (.slice Ao58 t450.length co58)) (fun _ hk => hk.2) (.slice Ao59 t453.length co59)) (fun _ hk => hk.1.1.1.1.1)⟩, ⟨by (with_reducible repeat (first | refine blk_drewN ?_ _ | refine blk_drew ?_ | refine blk_alloc ?_ _)); refine blk_far ?_ NB412_422.out _; (with_reducible repeat (first | refine blk_drewN ?_ _ | refine blk_drew ?_ | refine blk_alloc ?_ _)); refine blk_far ?_ NB412_422.out _; (with_reducible repeat (first | refine blk_drewN ?_ _ | refine blk_drew ?_ | refine blk_alloc ?_ _)); refine blk_far ?_ NB412_422.out _; (with_reducible repeat (first | refine blk_drewN ?_ _ | refine blk_drew ?_ | refine blk_alloc ?_ _)); refine blk_far ?_ NB412_422.out _; exact bk BK412.out⟩, ⟨by (with_reducible repeat (first | refine blk_drewN ?_ _ | refine blk_drew ?_ | refine blk_alloc ?_ _)); refine blk_put (cs := #[.int .i64 t448, .int .i64 t449, .slice Ao58 t450.length co58, .slice Ao55 x423003_2.length co55]) ?_ 3 _ rfl; (with_reducible repeat (first | refine blk_drewN ?_ _ | refine blk_drew ?_ | refine blk_alloc ?_ _)); refine blk_put (cs := #[.int .i64 t448, .int .i64 t449, .slice Ao54 x423002_2.length co54, .slice Ao55 x423003_2.length co55]) ?_ 2 _ rfl; (with_reducible repeat (first | refine blk_drewN ?_ _ | refine blk_drew ?_ | refine blk_alloc ?_ _)); refine blk_put (cs := #[.int .i64 t448, .int .i64 x423001_2, .slice Ao54 x423002_2.length co54, .slice Ao55 x423003_2.length co55]) ?_ 1 _ rfl; (with_reducible repeat (first | refine blk_drewN ?_ _ | refine blk_drew ?_ | refine blk_alloc ?_ _)); refine blk_put (cs := #[.int .i64 x423000_2, .int .i64 x423001_2, .slice Ao54 x423002_2.length co54, .slice Ao55 x423003_2.length co55]) ?_ 0 _ rfl; exact bk BK422.out⟩, ⟨bl3 HB.out GE412.out GE422.out GE432.out⟩⟩
         ·replace c21 := Bool.eq_false_iff.mpr c21
          subst c21
          have H1 : (some (0, 0, ([] : List (S45)), ([] : List (S45)), ([] : List ByteArray), false)) = some (r1, r2, r3, r4, r5, r6) := by rw [if_neg (show ¬ (false = true) by decide)] at H; exact H
          clear H
          have H := H1
          clear H1
          simp only [Option.some.injEq, Prod.mk.injEq] at H
          obtain ⟨rfl, rfl, rfl, rfl, rfl, rfl⟩ := H
          have p431 : 0 ≤ (x33_2 : Int) := od
          have q431 : x33_2 < (l2.length : Int) := od
          obtain ⟨ad431, e431, hx431_0, hx431_1⟩ := at_T45 HR2.out x33_2 p431 q431
          cases e431
          replace hx431_0 := (HB.out.cell (World.block_lt_of_cell? w _ hx431_0)).trans hx431_0
          replace hx431_1 := (HB.out.cell (World.block_lt_of_cell? w _ hx431_1)).trans hx431_1
          replace p431 := eq_true p431
          replace q431 := eq_true q431
          go_wp2_with (first | ((with_reducible refine gate_dst (N := 13) rfl ?_); (try (refine gate_guard (by rfl) ?_; dsimp only)); refine box_event ?hg (N := 13) ?hd (cs := #[.string (⟨#[]⟩ : ByteArray), .string (⟨#[]⟩ : ByteArray)]) (t := 45) ?hr ?_; (case hd => rfl); (case hg => rfl); (case hr => first | (go_simp; done) | (go_simp; rfl)); intro gb432 hg w60 hbox hb; replace HO_11 := ak (Kd.R_below (kr HO_11.out) hb); replace HO_423002 := ak (Kd.R_below (Kd.R_elderB (kr HO_423002.out) gb432 (Nat.le_of_eq hg.symm)) hb); replace HO_423003 := ak (Kd.R_below (Kd.R_elderB (kr HO_423003.out) gb432 (Nat.le_of_eq hg.symm)) hb); have BK432 := ak hbox; have GW432 := gs hg (bl2 HB.out GE412.out GE422.out); have GE432 := gs hg (bl2 HB.out GE412.out GE422.out); replace HB := ak (below_step (bl2 HB.out GE412.out GE422.out) hb); have NB412_432 := nl hg BK412.out; have NB432_412 := ng hg BK412.out; replace BK412 := ak (blk_below (bk BK412.out) hb); have NB422_432 := nl hg BK422.out; have NB432_422 := ng hg BK422.out; replace BK422 := ak (blk_below (bk BK422.out) hb); clear hb hbox hg; have hnb61 := NB432_412.out; have hnc61 := NB412_432.out; have hnb62 := NB432_422.out; have hnc62 := NB422_432.out; obtain ⟨hcz63_0, hcz63_1, hfz63_0, hfz63_1⟩ := b2 BK432.out) | (refine gL 55 Try.func55 (some 38) #[.agg #[.string ((rd_T45 l2 x33_2).f0), .string ((rd_T45 l2 x33_2).f1)]] ?_; (with_reducible refine (spec_l12Entry.calls ((rd_T45 l2 x33_2).f0) ((rd_T45 l2 x33_2).f1) false _ A20.out).mono ?_); rintro e w64 ⟨rfl, hb⟩; refine ⟨_, rfl, ?_⟩; replace HO_11 := ak (Kd.R_below (by (with_reducible repeat (first | apply Kd.R_alloc | apply Kd.R_drewN | apply Kd.R_drew)); exact (Kd.R_mono (Kd.R_far (p := ⟨gb432, 1, none⟩) (Kd.R_far (p := ⟨gb432, 0, none⟩) (Kd.R_types HO_11.out BK432.out (by decide)) (fun _ hk => hk.2) (.string ((rd_T45 l2 x33_2).f0))) (fun _ hk => hk.2) (.string ((rd_T45 l2 x33_2).f1))) (fun _ h_ => h_.1))) hb); replace HO_423002 := ak (Kd.R_below (by (with_reducible repeat (first | apply Kd.R_alloc | apply Kd.R_drewN | apply Kd.R_drew)); exact (Kd.R_mono (Kd.R_far (p := ⟨gb432, 1, none⟩) (Kd.R_far (p := ⟨gb432, 0, none⟩) (Kd.R_mono HO_423002.out (fun k_ hk => (⟨hk, hk.2⟩ : _ ∧ k_ ≠ gb432))) (fun _ hk => hk.2) (.string ((rd_T45 l2 x33_2).f0))) (fun _ hk => hk.2) (.string ((rd_T45 l2 x33_2).f1))) (fun _ h_ => h_.1))) hb); replace HO_423003 := ak (Kd.R_below (by (with_reducible repeat (first | apply Kd.R_alloc | apply Kd.R_drewN | apply Kd.R_drew)); exact (Kd.R_mono (Kd.R_far (p := ⟨gb432, 1, none⟩) (Kd.R_far (p := ⟨gb432, 0, none⟩) (Kd.R_mono HO_423003.out (fun k_ hk => (⟨hk, hk.2⟩ : _ ∧ k_ ≠ gb432))) (fun _ hk => hk.2) (.string ((rd_T45 l2 x33_2).f0))) (fun _ hk => hk.2) (.string ((rd_T45 l2 x33_2).f1))) (fun _ h_ => h_.1))) hb); replace BK412 := ak (blk_below (g := gb412) (o := .cells #[.int .i64 x413000_2, .int .i64 x413001_2, .slice none 0 0, .slice none 0 0] 28 (0, 0)) (bq BK412.out) hb); replace BK422 := ak (blk_below (g := gb422) (o := .cells #[.int .i64 x423000_2, .int .i64 x423001_2, u423002, u423003] 28 (0, 0)) (bq BK422.out) hb); replace BK432 := ak (blk_below (g := gb432) (o := .cells #[.string ((rd_T45 l2 x33_2).f0), .string ((rd_T45 l2 x33_2).f1)] 45 (0, 0)) (bq BK432.out) hb); replace HB := ak (below_step (bl3 HB.out GE412.out GE422.out GE432.out) hb); clear hb; have hnb65 := NB412_422.out; have hnc65 := NB422_412.out; obtain ⟨hcz66_0, hcz66_1, hcz66_2, hcz66_3, hfz66_0, hfz66_1, hfz66_2, hfz66_3⟩ := b4 BK412.out))
          refine bodyPost_ret (results_ctt rfl _ _ gb412 28 #[.int .i64 0, .int .i64 0, .slice none 0 0, .slice none 0 0] (0, 0) _ rfl (bq BK412.out) Try.underlying28 rfl (by kernel_rfl)) rfl ?_
          exact ⟨_, _, _, by first | rfl | (simp [errW_none, errW_some] <;> rfl) | (simp [*, errW_none, errW_some] <;> rfl), by first | exact Kd.R_nil _ _ _ _ _ | exact Kd.N_nil _ _ _ _ _ | exact Kd.V_nil _ _ _ _ _ | exact Kd.Q_nil _ _ _ _ _ | exact Kd.S_nil _ _ _ _ _, by first | exact Kd.R_nil _ _ _ _ _ | exact Kd.N_nil _ _ _ _ _ | exact Kd.V_nil _ _ _ _ _ | exact Kd.Q_nil _ _ _ _ _ | exact Kd.S_nil _ _ _ _ _, by first | exact Kd.R_nil _ _ _ _ _ | exact Kd.N_nil _ _ _ _ _ | exact Kd.V_nil _ _ _ _ _ | exact Kd.Q_nil _ _ _ _ _ | exact Kd.S_nil _ _ _ _ _, bl3 HB.out GE412.out GE422.out GE432.out⟩
        ·rw [if_neg c19] at H
         exact absurd H (by simp)
       ·rw [if_neg c18] at H
        exact absurd H (by simp)
      ·rw [if_neg c17] at H
       have c17b0 : decide (x33_2 < (l2.length : Int)) = false := decide_eq_false c17
       clear c17
       replace H := Option.bind_eq_some_iff.mp H
       obtain ⟨⟨t423, t424, t425, t428⟩, A670, H⟩ := H
       try dsimp only at H
       have A67 := ak A670
       clear A670
       simp only [Option.some.injEq, Prod.mk.injEq] at H
       obtain ⟨rfl, rfl, rfl, rfl, rfl, rfl⟩ := H
       have hnb68 := NB422_412.out
       have hnc68 := NB412_422.out
       obtain ⟨hcz69_0, hcz69_1, hcz69_2, hcz69_3, hfz69_0, hfz69_1, hfz69_2, hfz69_3⟩ := b4 BK422.out
       obtain ⟨Ao70, co70, eo70⟩ := Kd.R_slice HO_423002.out
       subst eo70
       obtain ⟨Ao71, co71, eo71⟩ := Kd.R_slice HO_423003.out
       subst eo71
       go_wp2_with (first | (refine gL 42 Try.func42 (some 65) #[.agg #[.int .i64 x423000_2, .int .i64 x423001_2, .slice Ao70 x423002_2.length co70, .slice Ao71 x423003_2.length co71]] ?_; (with_reducible refine (spec_l12Own.calls x423000_2 x423001_2 _ _ x423002_2 _ _ x423003_2 t423 t424 t425 t428 _ ?side1 ?side2 ?side3 ?side4 A67.out).mono ?_); (case side1 => exact kc (Kd.R_reads' HO_423002.out).2.2); (case side2 => exact (Kd.R_reads' HO_423002.out).2.1); (case side3 => exact kc (Kd.R_reads' HO_423003.out).2.2); (case side4 => exact (Kd.R_reads' HO_423003.out).2.1); rintro e w72 ⟨v426, v429, rfl, ho0, ho1, hb⟩; refine ⟨_, rfl, ?_⟩; replace HO_11 := ak (Kd.R_below (kr HO_11.out) hb); have HO427 := ak (Kd.R_lower (Kd.R_new' (Kd.R_new' ho0 (Kd.R_lt (kr HO_423002.out))) (Kd.R_lt (kr HO_423003.out))) (below_size (bl2 HB.out GE412.out GE422.out))); have HO430 := ak (Kd.R_lower (Kd.R_new' (Kd.R_new' ho1 (Kd.R_lt (kr HO_423002.out))) (Kd.R_lt (kr HO_423003.out))) (below_size (bl2 HB.out GE412.out GE422.out))); replace HO_423002 := ak (Kd.R_mono (Kd.R_told (Kd.R_told (Kd.R_old (kr HO_423002.out) hb) (Kd.R_base ho0)) (Kd.R_base ho1)) (fun _ h_ => h_.1)); replace HO_423003 := ak (Kd.R_mono (Kd.R_told (Kd.R_told (Kd.R_old (kr HO_423003.out) hb) (Kd.R_base ho0)) (Kd.R_base ho1)) (fun _ h_ => h_.1)); replace BK412 := ak (blk_below (bk BK412.out) hb); replace BK422 := ak (blk_below (bk BK422.out) hb); replace HB := ak (below_step (bl2 HB.out GE412.out GE422.out) hb); clear hb ho0 ho1; obtain ⟨hcz73_0, hcz73_1, hcz73_2, hcz73_3, hfz73_0, hfz73_1, hfz73_2, hfz73_3⟩ := b4 BK412.out; obtain ⟨Ao74, co74, eo74⟩ := Kd.R_slice HO427.out; subst eo74; obtain ⟨Ao75, co75, eo75⟩ := Kd.R_slice HO430.out; subst eo75))
       refine bodyPost_ret (results_ctt rfl _ _ gb412 28 #[.int .i64 t423, .int .i64 t424, .slice Ao74 t425.length co74, .slice Ao75 t428.length co75] (0, 0) _ rfl (bq BK412.out) Try.underlying28 rfl (by kernel_rfl)) rfl ?_
       exact ⟨_, _, _, by first | rfl | (simp [errW_none, errW_some] <;> rfl) | (simp [*, errW_none, errW_some] <;> rfl), by (with_reducible repeat (first | apply Kd.R_alloc | apply Kd.R_drewN | apply Kd.R_drew)); exact Kd.R_mono (Kd.R_far (p := ⟨gb412, 3, none⟩) (Kd.R_far (p := ⟨gb412, 2, none⟩) (Kd.R_far (p := ⟨gb412, 1, none⟩) (Kd.R_far (p := ⟨gb412, 0, none⟩) (Kd.R_types HO427.out BK412.out (by decide)) (fun _ hk => hk.2) (.int .i64 t423)) (fun _ hk => hk.2) (.int .i64 t424)) (fun _ hk => hk.2) (.slice Ao74 t425.length co74)) (fun _ hk => hk.2) (.slice Ao75 t428.length co75)) (fun _ hk => hk.1.1.1), by (with_reducible repeat (first | apply Kd.R_alloc | apply Kd.R_drewN | apply Kd.R_drew)); exact Kd.R_mono (Kd.R_far (p := ⟨gb412, 3, none⟩) (Kd.R_far (p := ⟨gb412, 2, none⟩) (Kd.R_far (p := ⟨gb412, 1, none⟩) (Kd.R_far (p := ⟨gb412, 0, none⟩) (Kd.R_types HO430.out BK412.out (by decide)) (fun _ hk => hk.2) (.int .i64 t423)) (fun _ hk => hk.2) (.int .i64 t424)) (fun _ hk => hk.2) (.slice Ao74 t425.length co74)) (fun _ hk => hk.2) (.slice Ao75 t428.length co75)) (fun _ hk => hk.1.1.1), by (with_reducible repeat (first | apply Kd.R_alloc | apply Kd.R_drewN | apply Kd.R_drew)); exact Kd.R_mono (Kd.R_far (p := ⟨gb412, 3, none⟩) (Kd.R_far (p := ⟨gb412, 2, none⟩) (Kd.R_far (p := ⟨gb412, 1, none⟩) (Kd.R_far (p := ⟨gb412, 0, none⟩) (Kd.R_types HO_11.out BK412.out (by decide)) (fun _ hk => hk.2) (.int .i64 t423)) (fun _ hk => hk.2) (.int .i64 t424)) (fun _ hk => hk.2) (.slice Ao74 t425.length co74)) (fun _ hk => hk.2) (.slice Ao75 t428.length co75)) (fun _ hk => trivial), bl2 HB.out GE412.out GE422.out⟩

/-- A state of type 78 at block g of W; what its slices lead to came in by w0. -/
def IsS78 (w0 W : World) (g : Nat) (f0 : List Int) (f1 : Int) (f2 : Int) : Prop := ∃ A0 c0, W.heap[g]? = some (.cells #[.slice A0 f0.length c0, .int .i64 f1, .int .u64 f2] 78 (0, 0)) ∧ w0.heap.size ≤ g ∧ Kd.C (Kd.int .u8) w0 A0 f0.length f0
theorem IsS78.grown {w0 W : World} {g : Nat} {f0 : List Int} {f1 : Int} {f2 : Int} {W1 : World} {row : Option Nat} (h : IsS78 w0 W g f0 f1 f2) (hw : W.grownBy W1 row) (hne : some g ≠ row) : IsS78 w0 W1 g f0 f1 f2 := by
 obtain ⟨A0, c0, hb, hg, hr0⟩ := h
 exact ⟨A0, c0, blk_grown hb hw hne, hg, hr0⟩
theorem IsS78.own_neN {w0 W : World} {g : Nat} {f0 : List Int} {f1 : Int} {f2 : Int} {α : Type} {d : Kd α} {e : Nat} {base : Nat} {ok : Nat → Prop} {v : Value} {xs : List α} (h : IsS78 w0 W g f0 f1 f2) (ho : Kd.N d e W base ok v xs) (ht : e ≠ 78) : some g ≠ v.ownBlock := by
 obtain ⟨A0, c0, hb, hg, hr0⟩ := h
 exact Kd.N_ne ho hb ht
theorem IsS78.fresh {w0 W : World} {g : Nat} {f0 : List Int} {f1 : Int} {f2 : Int} (h : IsS78 w0 W g f0 f1 f2) : ∀ k, W.heap.size ≤ k → k ≠ g := by
 obtain ⟨A0, c0, hb, hg, hr0⟩ := h
 exact Kd.freshB hb
theorem IsS78.kept {w0 W : World} {g : Nat} {f0 : List Int} {f1 : Int} {f2 : Int} {W1 : World} {S : Nat → Prop} (h : IsS78 w0 W g f0 f1 f2) (hk : Kept W W1 S) (hne : ¬ S g) : IsS78 w0 W1 g f0 f1 f2 := by
 obtain ⟨A0, c0, hb, hg, hr0⟩ := h
 exact ⟨A0, c0, blk_kept hb hk hne, hg, hr0⟩
theorem IsS78.below {w0 W : World} {g : Nat} {f0 : List Int} {f1 : Int} {f2 : Int} {W1 : World} (h : IsS78 w0 W g f0 f1 f2) (hw : Below W.heap.size W W1) : IsS78 w0 W1 g f0 f1 f2 := h.grown (grown_of_below hw none) (by simp)
theorem IsS78.alloc {w0 W : World} {g : Nat} {f0 : List Int} {f1 : Int} {f2 : Int} (h : IsS78 w0 W g f0 f1 f2) (o : Obj) : IsS78 w0 (W.alloc o) g f0 f1 f2 := h.below (below_alloc (Below.refl _ _) o)
theorem IsS78.drewN {w0 W : World} {g : Nat} {f0 : List Int} {f1 : Int} {f2 : Int} (h : IsS78 w0 W g f0 f1 f2) (m : Nat) : IsS78 w0 (W.drewN m) g f0 f1 f2 := h
theorem IsS78.drew {w0 W : World} {g : Nat} {f0 : List Int} {f1 : Int} {f2 : Int} (h : IsS78 w0 W g f0 f1 f2) : IsS78 w0 W.drew g f0 f1 f2 := h
theorem IsS78.at_ {w0 W : World} {g : Nat} {f0 : List Int} {f1 : Int} {f2 : Int} {w' : World} {m : Nat} (hq : W.drewN m = w') (h : IsS78 w0 W g f0 f1 f2) : IsS78 w0 w' g f0 f1 f2 := by subst hq; exact IsS78.drewN h m
theorem IsS78.apart {w0 W : World} {g : Nat} {f0 : List Int} {f1 : Int} {f2 : Int} {α : Type} {d : Kd α} {e : Nat} {base : Nat} {ok : Nat → Prop} {v : Value} {xs : List α} (h : IsS78 w0 W g f0 f1 f2) (ho : d.R e W base ok v xs) (ht : ∀ q, q ∈ e :: d.E → q ≠ 78) : d.R e W base (fun k => ok k ∧ k ≠ g) v xs := by
 obtain ⟨A0, c0, hb, hg, hr0⟩ := h
 exact Kd.R_types ho hb ht
theorem IsS78.own_ne {w0 W : World} {g : Nat} {f0 : List Int} {f1 : Int} {f2 : Int} {α : Type} {d : Kd α} {e : Nat} {base : Nat} {ok : Nat → Prop} {v : Value} {xs : List α} (h : IsS78 w0 W g f0 f1 f2) (ho : d.R e W base ok v xs) (ht : e ≠ 78) : some g ≠ v.ownBlock := by
 obtain ⟨A0, c0, hb, hg, hr0⟩ := h
 exact Kd.R_ne ho hb ht
theorem IsS78.apartQ {w0 W : World} {g : Nat} {f0 : List Int} {f1 : Int} {f2 : Int} {α : Type} {d : Kd α} {e : Nat} {base : Nat} {ok : Nat → Prop} {v : Value} {xs : List α} (h : IsS78 w0 W g f0 f1 f2) (ho : d.Q e W base ok v xs) (ht : ∀ q, q ∈ e :: d.E → q ≠ 78) : d.Q e W base (fun k => ok k ∧ k ≠ g) v xs := by
 obtain ⟨A0, c0, hb, hg, hr0⟩ := h
 exact Kd.Q_types ho hb ht
theorem IsS78.own_neQ {w0 W : World} {g : Nat} {f0 : List Int} {f1 : Int} {f2 : Int} {α : Type} {d : Kd α} {e : Nat} {base : Nat} {ok : Nat → Prop} {v : Value} {xs : List α} (h : IsS78 w0 W g f0 f1 f2) (ho : d.Q e W base ok v xs) (ht : e ≠ 78) : some g ≠ v.ownBlock := by
 obtain ⟨A0, c0, hb, hg, hr0⟩ := h
 exact Kd.Q_ne ho hb ht
theorem IsS78.apartS {w0 W : World} {g : Nat} {f0 : List Int} {f1 : Int} {f2 : Int} {α : Type} {d : Kd α} {e : Nat} {base : Nat} {ok : Nat → Prop} {v : Value} {xs : List α} (h : IsS78 w0 W g f0 f1 f2) (ho : d.S e W base ok v xs) (ht : ∀ q, q ∈ e :: d.E → q ≠ 78) : d.S e W base (fun k => ok k ∧ k ≠ g) v xs := by
 obtain ⟨A0, c0, hb, hg, hr0⟩ := h
 exact Kd.S_types ho hb ht
theorem IsS78.own_neS {w0 W : World} {g : Nat} {f0 : List Int} {f1 : Int} {f2 : Int} {α : Type} {d : Kd α} {e : Nat} {base : Nat} {ok : Nat → Prop} {v : Value} {xs : List α} (h : IsS78 w0 W g f0 f1 f2) (ho : d.S e W base ok v xs) (ht : e ≠ 78) : some g ≠ v.ownBlock := by
 obtain ⟨A0, c0, hb, hg, hr0⟩ := h
 exact Kd.S_ne ho hb ht
theorem IsS78.lt {w0 W : World} {g : Nat} {f0 : List Int} {f1 : Int} {f2 : Int} (h : IsS78 w0 W g f0 f1 f2) : g < W.heap.size := by
 obtain ⟨A0, c0, hb, hg, hr0⟩ := h
 exact blk_lt hb
theorem IsS78.ge {w0 W : World} {g : Nat} {f0 : List Int} {f1 : Int} {f2 : Int} (h : IsS78 w0 W g f0 f1 f2) : w0.heap.size ≤ g := by
 obtain ⟨A0, c0, hb, hg, hr0⟩ := h
 exact hg
theorem IsS78.ne_blk {w0 W : World} {g : Nat} {f0 : List Int} {f1 : Int} {f2 : Int} {a : Nat} {cs : Array Value} {t : TypeId} {fr : Nat × Nat} (h : IsS78 w0 W g f0 f1 f2) (hb2 : W.heap[a]? = some (.cells cs t fr)) (ht : t ≠ 78) : g ≠ a := by
 obtain ⟨A0, c0, hb, hg, hr0⟩ := h
 rintro rfl
 rw [hb] at hb2
 injection hb2 with hb2
 injection hb2 with _ ht2
 exact ht ht2.symm
theorem IsS78.far {w0 W : World} {g : Nat} {f0 : List Int} {f1 : Int} {f2 : Int} {p : Addr} (h : IsS78 w0 W g f0 f1 f2) (hne : g ≠ p.block) (u : Value) : IsS78 w0 (W.setCell p u) g f0 f1 f2 := by
 obtain ⟨A0, c0, hb, hg, hr0⟩ := h
 exact ⟨A0, c0, blk_far hb hne u, hg, hr0⟩
theorem cellS78_0 {W : World} {g : Nat} {A0 : Option Addr} {c0 : Nat} {f0 : List Int} {f1 : Int} {f2 : Int} (h : W.heap[g]? = some (.cells #[.slice A0 f0.length c0, .int .i64 f1, .int .u64 f2] 78 (0, 0))) : W.cell? ⟨g, 0, none⟩ = some (.slice A0 f0.length c0) := (blk_cell h 0).trans rfl
theorem cellS78_1 {W : World} {g : Nat} {A0 : Option Addr} {c0 : Nat} {f0 : List Int} {f1 : Int} {f2 : Int} (h : W.heap[g]? = some (.cells #[.slice A0 f0.length c0, .int .i64 f1, .int .u64 f2] 78 (0, 0))) : W.cell? ⟨g, 1, none⟩ = some (.int .i64 f1) := (blk_cell h 1).trans rfl
theorem IsS78.set_1 {w0 W : World} {g : Nat} {f0 : List Int} {f1 : Int} {f2 : Int} (h : IsS78 w0 W g f0 f1 f2) (x : Int) : IsS78 w0 (W.setCell ⟨g, 1, none⟩ (.int .i64 x)) g f0 x f2 := by
 obtain ⟨A0, c0, hb, hg, hr0⟩ := h
 exact ⟨A0, c0, by simpa using blk_set hb 1 (.int .i64 x), hg, hr0⟩
theorem cellS78_2 {W : World} {g : Nat} {A0 : Option Addr} {c0 : Nat} {f0 : List Int} {f1 : Int} {f2 : Int} (h : W.heap[g]? = some (.cells #[.slice A0 f0.length c0, .int .i64 f1, .int .u64 f2] 78 (0, 0))) : W.cell? ⟨g, 2, none⟩ = some (.int .u64 f2) := (blk_cell h 2).trans rfl
theorem IsS78.set_2 {w0 W : World} {g : Nat} {f0 : List Int} {f1 : Int} {f2 : Int} (h : IsS78 w0 W g f0 f1 f2) (x : Int) : IsS78 w0 (W.setCell ⟨g, 2, none⟩ (.int .u64 x)) g f0 f1 x := by
 obtain ⟨A0, c0, hb, hg, hr0⟩ := h
 exact ⟨A0, c0, by simpa using blk_set hb 2 (.int .u64 x), hg, hr0⟩
theorem IsS78.new (w0 W : World) (A0 : Option Addr) (c0 : Nat) (f0 : List Int) (f1 : Int) (f2 : Int) (hB : Below w0.heap.size w0 W) (hr0 : Kd.C (Kd.int .u8) w0 A0 f0.length f0) : IsS78 w0 (W.alloc (.cells #[.slice A0 f0.length c0, .int .i64 f1, .int .u64 f2] 78)) W.heap.size f0 f1 f2 := ⟨A0, c0, by simpa using heap_alloc_new W _, hB.size, hr0⟩
theorem is {w0 W0 W : World} {g : Nat} {f0 h0 : List Int} {f1 f2 h1 h2 : Int} (k : IsS78 w0 W0 g f0 f1 f2) (h : IsS78 w0 W0 g f0 f1 f2 → IsS78 w0 W g h0 h1 h2 := by (intro h_; repeat (first | (with_reducible first | exact h_ | apply IsS78.alloc | apply IsS78.drewN | apply IsS78.drew | apply IsS78.set_1 | apply IsS78.set_2) | exact h_))) : IsS78 w0 W g h0 h1 h2 := h k
theorem is1 {w0 W0 W : World} {g : Nat} {f0 h0 : List Int} {f1 f2 h1 h2 : Int} {b0 : Nat} (k : IsS78 w0 W0 g f0 f1 f2) (g0 : g ≠ b0) (h : IsS78 w0 W0 g f0 f1 f2 → g ≠ b0 → IsS78 w0 W g h0 h1 h2 := by (intro h_ g0_; repeat (first | (with_reducible first | exact h_ | apply IsS78.alloc | apply IsS78.drewN | apply IsS78.drew | apply IsS78.set_1 | apply IsS78.set_2 | refine IsS78.far ?_ g0_ _) | exact h_))) : IsS78 w0 W g h0 h1 h2 := h k g0
theorem is2 {w0 W0 W : World} {g : Nat} {f0 h0 : List Int} {f1 f2 h1 h2 : Int} {b0 : Nat} {b1 : Nat} (k : IsS78 w0 W0 g f0 f1 f2) (g0 : g ≠ b0) (g1 : g ≠ b1) (h : IsS78 w0 W0 g f0 f1 f2 → g ≠ b0 → g ≠ b1 → IsS78 w0 W g h0 h1 h2 := by (intro h_ g0_ g1_; repeat (first | (with_reducible first | exact h_ | apply IsS78.alloc | apply IsS78.drewN | apply IsS78.drew | apply IsS78.set_1 | apply IsS78.set_2 | refine IsS78.far ?_ g0_ _ | refine IsS78.far ?_ g1_ _) | exact h_))) : IsS78 w0 W g h0 h1 h2 := h k g0 g1
theorem is3 {w0 W0 W : World} {g : Nat} {f0 h0 : List Int} {f1 f2 h1 h2 : Int} {b0 : Nat} {b1 : Nat} {b2 : Nat} (k : IsS78 w0 W0 g f0 f1 f2) (g0 : g ≠ b0) (g1 : g ≠ b1) (g2 : g ≠ b2) (h : IsS78 w0 W0 g f0 f1 f2 → g ≠ b0 → g ≠ b1 → g ≠ b2 → IsS78 w0 W g h0 h1 h2 := by (intro h_ g0_ g1_ g2_; repeat (first | (with_reducible first | exact h_ | apply IsS78.alloc | apply IsS78.drewN | apply IsS78.drew | apply IsS78.set_1 | apply IsS78.set_2 | refine IsS78.far ?_ g0_ _ | refine IsS78.far ?_ g1_ _ | refine IsS78.far ?_ g2_ _) | exact h_))) : IsS78 w0 W g h0 h1 h2 := h k g0 g1 g2

/-! ### spec_l1Cur_next: function 72 -/
def spec_l1Cur_next.f (s0_0 : List Int) (s0_1 : Int) (s0_2 : Int) : Option (Int × Int × Int) := if s0_1 < (s0_0.length : Int) then (if 0 ≤ s0_1 then (if (wrap64 (s0_1 + 1)) ≤ (s0_0.length : Int) then (some (wrap64 (rd s0_0 s0_1), wrap64 (s0_1 + 1), IntKind.u64.wrap ((IntKind.u64.wrap ((IntKind.u64.wrap (s0_2 * 6364136223846793005)) + (IntKind.u64.wrap (wrap64 (rd s0_0 s0_1))))) + 1442695040888963407))) else (some (wrap64 (Go.bits .and .u64 ((IntKind.u64.wrap ((IntKind.u64.wrap ((IntKind.u64.wrap (s0_2 * 6364136223846793005)) + (IntKind.u64.wrap (wrap64 (rd s0_0 s0_1))))) + 1442695040888963407)) / 1099511627776) 255), wrap64 (s0_1 + 1), IntKind.u64.wrap ((IntKind.u64.wrap ((IntKind.u64.wrap (s0_2 * 6364136223846793005)) + (IntKind.u64.wrap (wrap64 (rd s0_0 s0_1))))) + 1442695040888963407)))) else (none)) else (if (wrap64 (s0_1 + 1)) ≤ (s0_0.length : Int) then (some (0, wrap64 (s0_1 + 1), IntKind.u64.wrap ((IntKind.u64.wrap ((IntKind.u64.wrap (s0_2 * 6364136223846793005)))) + 1442695040888963407))) else (some (wrap64 (Go.bits .and .u64 ((IntKind.u64.wrap ((IntKind.u64.wrap ((IntKind.u64.wrap (s0_2 * 6364136223846793005)))) + 1442695040888963407)) / 1099511627776) 255), wrap64 (s0_1 + 1), IntKind.u64.wrap ((IntKind.u64.wrap ((IntKind.u64.wrap (s0_2 * 6364136223846793005)))) + 1442695040888963407))))
set_option maxHeartbeats 8000000 in
set_option maxRecDepth 100000 in
theorem spec_l1Cur_next.calls (g : Nat) (s0_0 : List Int) (s0_1 : Int) (s0_2 : Int) (r1 : Int) (r2 : Int) (r3 : Int) (w0 w : World) (hI : IsS78 w0 w g s0_0 s0_1 s0_2) (hB : Below w0.heap.size w0 w) (h : spec_l1Cur_next.f s0_0 s0_1 s0_2 = some (r1, r2, r3)) :
  Calls Try.prog 72 #[.pointer (some ⟨g, 0, none⟩)] w fun e w' => e = .returned (.int .i64 r1) ∧ IsS78 w0 w' g s0_0 r2 r3 ∧ Below w0.heap.size w0 w' ∧ KeepBut w w' g none := by
 have HI0 := ak hI
 have HK := ak (KeepBut.refl w g none)
 have HL := ak hB.size
 clear hI
 have HW0 := ak hB.size
 have HB := ak hB
 clear hB
 have H : (if s0_1 < (s0_0.length : Int) then (if 0 ≤ s0_1 then (if (wrap64 (s0_1 + 1)) ≤ (s0_0.length : Int) then (some (wrap64 (rd s0_0 s0_1), wrap64 (s0_1 + 1), IntKind.u64.wrap ((IntKind.u64.wrap ((IntKind.u64.wrap (s0_2 * 6364136223846793005)) + (IntKind.u64.wrap (wrap64 (rd s0_0 s0_1))))) + 1442695040888963407))) else (some (wrap64 (Go.bits .and .u64 ((IntKind.u64.wrap ((IntKind.u64.wrap ((IntKind.u64.wrap (s0_2 * 6364136223846793005)) + (IntKind.u64.wrap (wrap64 (rd s0_0 s0_1))))) + 1442695040888963407)) / 1099511627776) 255), wrap64 (s0_1 + 1), IntKind.u64.wrap ((IntKind.u64.wrap ((IntKind.u64.wrap (s0_2 * 6364136223846793005)) + (IntKind.u64.wrap (wrap64 (rd s0_0 s0_1))))) + 1442695040888963407)))) else (none)) else (if (wrap64 (s0_1 + 1)) ≤ (s0_0.length : Int) then (some (0, wrap64 (s0_1 + 1), IntKind.u64.wrap ((IntKind.u64.wrap ((IntKind.u64.wrap (s0_2 * 6364136223846793005)))) + 1442695040888963407))) else (some (wrap64 (Go.bits .and .u64 ((IntKind.u64.wrap ((IntKind.u64.wrap ((IntKind.u64.wrap (s0_2 * 6364136223846793005)))) + 1442695040888963407)) / 1099511627776) 255), wrap64 (s0_1 + 1), IntKind.u64.wrap ((IntKind.u64.wrap ((IntKind.u64.wrap (s0_2 * 6364136223846793005)))) + 1442695040888963407))))) = some (r1, r2, r3) := h
 clear h
 by_cases c2 : s0_1 < (s0_0.length : Int)
 ·rw [if_pos c2] at H
  have c2b0 : decide (s0_1 < (s0_0.length : Int)) = true := decide_eq_true c2
  clear c2
  by_cases c3 : 0 ≤ s0_1
  ·rw [if_pos c3] at H
   have c3b0 : decide (0 ≤ s0_1) = true := decide_eq_true c3
   clear c3
   by_cases c4 : (wrap64 (s0_1 + 1)) ≤ (s0_0.length : Int)
   ·rw [if_pos c4] at H
    have c4b0 : decide ((wrap64 (s0_1 + 1)) ≤ (s0_0.length : Int)) = true := decide_eq_true c4
    clear c4
    simp only [Option.some.injEq, Prod.mk.injEq] at H
    obtain ⟨rfl, rfl, rfl⟩ := H
    obtain ⟨ASz5_0, cSz5_0, HGz5, hgz5, HSz5_0⟩ := HI0.out
    have hcz5_0 := cellS78_0 HGz5
    have hcz5_1 := cellS78_1 HGz5
    have hcz5_2 := cellS78_2 HGz5
    have hfz5_1 := blk_frozen HGz5 1
    have hfz5_2 := blk_frozen HGz5 2
    clear HGz5 hgz5
    have p459 : 0 ≤ (s0_1 : Int) := od
    have q459 : s0_1 < (s0_0.length : Int) := od
    obtain ⟨ad459, e459, hx459_0⟩ := Kd.at_int HSz5_0 s0_1 p459 q459
    cases e459
    replace hx459_0 := pw_cell_below HB.out hx459_0
    replace p459 := eq_true p459
    replace q459 := eq_true q459
    go_enter Try.func72, Try.ntmps72
    go_wp2
    repeat (go_quiet (fail); try go_wp2)
    go_ret
    exact ⟨by first | rfl | (simp [errW_none, errW_some] <;> rfl) | (simp [*, errW_none, errW_some] <;> rfl), by repeat (first | (with_reducible first | exact HI0.out | apply IsS78.alloc | apply IsS78.drewN | apply IsS78.drew | apply IsS78.set_1 | apply IsS78.set_2) | exact HI0.out), bl1 HB.out (IsS78.ge HI0.out), kb HK.out⟩
   ·rw [if_neg c4] at H
    have c4b0 : decide ((wrap64 (s0_1 + 1)) ≤ (s0_0.length : Int)) = false := decide_eq_false c4
    clear c4
    simp only [Option.some.injEq, Prod.mk.injEq] at H
    obtain ⟨rfl, rfl, rfl⟩ := H
    (try clear hcz5_0)
    obtain ⟨ASz6_0, cSz6_0, HGz6, hgz6, HSz6_0⟩ := HI0.out
    have hcz6_0 := cellS78_0 HGz6
    have hcz6_1 := cellS78_1 HGz6
    have hcz6_2 := cellS78_2 HGz6
    have hfz6_1 := blk_frozen HGz6 1
    have hfz6_2 := blk_frozen HGz6 2
    clear HGz6 hgz6
    have p459 : 0 ≤ (s0_1 : Int) := od
    have q459 : s0_1 < (s0_0.length : Int) := od
    obtain ⟨ad459, e459, hx459_0⟩ := Kd.at_int HSz6_0 s0_1 p459 q459
    cases e459
    replace hx459_0 := pw_cell_below HB.out hx459_0
    replace p459 := eq_true p459
    replace q459 := eq_true q459
    go_enter Try.func72, Try.ntmps72
    go_wp2
    repeat (go_quiet (fail); try go_wp2)
    go_ret
    exact ⟨by first | rfl | (simp [errW_none, errW_some] <;> rfl) | (simp [*, errW_none, errW_some] <;> rfl), by repeat (first | (with_reducible first | exact HI0.out | apply IsS78.alloc | apply IsS78.drewN | apply IsS78.drew | apply IsS78.set_1 | apply IsS78.set_2) | exact HI0.out), bl1 HB.out (IsS78.ge HI0.out), kb HK.out⟩
  ·rw [if_neg c3] at H
   exact absurd H (by simp)
 ·rw [if_neg c2] at H
  have c2b0 : decide (s0_1 < (s0_0.length : Int)) = false := decide_eq_false c2
  clear c2
  by_cases c7 : (wrap64 (s0_1 + 1)) ≤ (s0_0.length : Int)
  ·rw [if_pos c7] at H
   have c7b0 : decide ((wrap64 (s0_1 + 1)) ≤ (s0_0.length : Int)) = true := decide_eq_true c7
   clear c7
   simp only [Option.some.injEq, Prod.mk.injEq] at H
   obtain ⟨rfl, rfl, rfl⟩ := H
   (try clear hcz5_0)
   (try clear hcz6_0)
   obtain ⟨ASz8_0, cSz8_0, HGz8, hgz8, HSz8_0⟩ := HI0.out
   have hcz8_0 := cellS78_0 HGz8
   have hcz8_1 := cellS78_1 HGz8
   have hcz8_2 := cellS78_2 HGz8
   have hfz8_1 := blk_frozen HGz8 1
   have hfz8_2 := blk_frozen HGz8 2
   clear HGz8 hgz8
   go_enter Try.func72, Try.ntmps72
   go_wp2
   repeat (go_quiet (fail); try go_wp2)
   go_ret
   exact ⟨by first | rfl | (simp [errW_none, errW_some] <;> rfl) | (simp [*, errW_none, errW_some] <;> rfl), by repeat (first | (with_reducible first | exact HI0.out | apply IsS78.alloc | apply IsS78.drewN | apply IsS78.drew | apply IsS78.set_1 | apply IsS78.set_2) | exact HI0.out), bl1 HB.out (IsS78.ge HI0.out), kb HK.out⟩
  ·rw [if_neg c7] at H
   have c7b0 : decide ((wrap64 (s0_1 + 1)) ≤ (s0_0.length : Int)) = false := decide_eq_false c7
   clear c7
   simp only [Option.some.injEq, Prod.mk.injEq] at H
   obtain ⟨rfl, rfl, rfl⟩ := H
   (try clear hcz5_0)
   (try clear hcz6_0)
   (try clear hcz8_0)
   obtain ⟨ASz9_0, cSz9_0, HGz9, hgz9, HSz9_0⟩ := HI0.out
   have hcz9_0 := cellS78_0 HGz9
   have hcz9_1 := cellS78_1 HGz9
   have hcz9_2 := cellS78_2 HGz9
   have hfz9_1 := blk_frozen HGz9 1
   have hfz9_2 := blk_frozen HGz9 2
   clear HGz9 hgz9
   go_enter Try.func72, Try.ntmps72
   go_wp2
   repeat (go_quiet (fail); try go_wp2)
   go_ret
   exact ⟨by first | rfl | (simp [errW_none, errW_some] <;> rfl) | (simp [*, errW_none, errW_some] <;> rfl), by repeat (first | (with_reducible first | exact HI0.out | apply IsS78.alloc | apply IsS78.drewN | apply IsS78.drew | apply IsS78.set_1 | apply IsS78.set_2) | exact HI0.out), bl1 HB.out (IsS78.ge HI0.out), kb HK.out⟩

/-! ### spec_l1Cur_pick: function 47 -/
def spec_l1Cur_pick.f (s0_0 : List Int) (s0_1 : Int) (s0_2 : Int) (a1 : Int) : Option (Int × Int × Int) := if a1 ≤ 1 then (some (0, s0_1, s0_2)) else ((spec_l1Cur_next.f s0_0 s0_1 s0_2).bind fun bt460 => (if a1 > 200 then ((spec_l1Cur_next.f s0_0 bt460.2.1 bt460.2.2).bind fun bt463 => (if a1 = 0 then (none) else (some (Int.tmod (wrap64 ((wrap64 (bt460.1 * 256)) + bt463.1)) a1, bt463.2.1, bt463.2.2)))) else (if a1 = 0 then (none) else (some (Int.tmod bt460.1 a1, bt460.2.1, bt460.2.2)))))
set_option maxHeartbeats 8000000 in
set_option maxRecDepth 100000 in
theorem spec_l1Cur_pick.calls (g : Nat) (s0_0 : List Int) (s0_1 : Int) (s0_2 : Int) (a1 : Int) (r1 : Int) (r2 : Int) (r3 : Int) (w0 w : World) (hI : IsS78 w0 w g s0_0 s0_1 s0_2) (hB : Below w0.heap.size w0 w) (h : spec_l1Cur_pick.f s0_0 s0_1 s0_2 a1 = some (r1, r2, r3)) :
  Calls Try.prog 47 #[.pointer (some ⟨g, 0, none⟩), .int .i64 a1] w fun e w' => e = .returned (.int .i64 r1) ∧ IsS78 w0 w' g s0_0 r2 r3 ∧ Below w0.heap.size w0 w' ∧ KeepBut w w' g none := by
 have HI0 := ak hI
 have HK := ak (KeepBut.refl w g none)
 have HL := ak hB.size
 clear hI
 have HW0 := ak hB.size
 have HB := ak hB
 clear hB
 have H : (if a1 ≤ 1 then (some (0, s0_1, s0_2)) else ((spec_l1Cur_next.f s0_0 s0_1 s0_2).bind fun bt460 => (if a1 > 200 then ((spec_l1Cur_next.f s0_0 bt460.2.1 bt460.2.2).bind fun bt463 => (if a1 = 0 then (none) else (some (Int.tmod (wrap64 ((wrap64 (bt460.1 * 256)) + bt463.1)) a1, bt463.2.1, bt463.2.2)))) else (if a1 = 0 then (none) else (some (Int.tmod bt460.1 a1, bt460.2.1, bt460.2.2)))))) = some (r1, r2, r3) := h
 clear h
 by_cases c3 : a1 ≤ 1
 ·rw [if_pos c3] at H
  have c3b0 : decide (a1 ≤ 1) = true := decide_eq_true c3
  clear c3
  simp only [Option.some.injEq, Prod.mk.injEq] at H
  obtain ⟨rfl, rfl, rfl⟩ := H
  go_enter Try.func47, Try.ntmps47
  go_wp2
  go_ret
  exact ⟨by first | rfl | (simp [errW_none, errW_some] <;> rfl) | (simp [*, errW_none, errW_some] <;> rfl), by repeat (first | (with_reducible first | exact HI0.out | apply IsS78.alloc | apply IsS78.drewN | apply IsS78.drew | apply IsS78.set_1 | apply IsS78.set_2) | exact HI0.out), bl1 HB.out (IsS78.ge HI0.out), kb HK.out⟩
 ·rw [if_neg c3] at H
  have c3b0 : decide (a1 ≤ 1) = false := decide_eq_false c3
  clear c3
  replace H := Option.bind_eq_some_iff.mp H
  obtain ⟨⟨t460, t461, t462⟩, A40, H⟩ := H
  try dsimp only at H
  have A4 := ak A40
  clear A40
  by_cases c5 : a1 > 200
  ·rw [if_pos c5] at H
   have c5b0 : decide (200 < a1) = true := decide_eq_true c5
   clear c5
   replace H := Option.bind_eq_some_iff.mp H
   obtain ⟨⟨t463, t464, t465⟩, A60, H⟩ := H
   try dsimp only at H
   have A6 := ak A60
   clear A60
   by_cases c7 : a1 = 0
   ·rw [if_pos c7] at H
    exact absurd H (by simp)
   ·rw [if_neg c7] at H
    have c7b0 : (a1 == 0) = false := beq_eq_false_iff_ne.mpr c7
    have c7b1 : (a1 != 0) = true := bne_iff_ne.mpr c7
    simp only [Option.some.injEq, Prod.mk.injEq] at H
    obtain ⟨rfl, rfl, rfl⟩ := H
    go_enter Try.func47, Try.ntmps47
    go_wp2_with (first | (refine gL 72 Try.func72 (some 9) #[.pointer (some ⟨g, 0, none⟩)] ?_; (with_reducible refine (spec_l1Cur_next.calls g s0_0 s0_1 s0_2 t460 t461 t462 w0 _ ?side1 ?side2 A4.out).mono ?_); (case side1 => exact is HI0.out); (case side2 => exact bl1 HB.out (IsS78.ge HI0.out)); rintro e w8 ⟨rfl, hi, hb, hk⟩; refine ⟨_, rfl, ?_⟩; replace HK := ak (KeepBut.trans (kb HK.out) hk (.inl rfl)); replace HB := ak hb; replace HI0 := ak hi; clear hb hk hi) | (refine gL 72 Try.func72 (some 15) #[.pointer (some ⟨g, 0, none⟩)] ?_; (with_reducible refine (spec_l1Cur_next.calls g s0_0 t461 t462 t463 t464 t465 w0 _ ?side1 ?side2 A6.out).mono ?_); (case side1 => exact is HI0.out); (case side2 => exact bl1 HB.out (IsS78.ge HI0.out)); rintro e w9 ⟨rfl, hi, hb, hk⟩; refine ⟨_, rfl, ?_⟩; replace HK := ak (KeepBut.trans (kb HK.out) hk (.inl rfl)); replace HB := ak hb; replace HI0 := ak hi; clear hb hk hi))
    go_ret
    exact ⟨by first | rfl | (simp [errW_none, errW_some] <;> rfl) | (simp [*, errW_none, errW_some] <;> rfl), by repeat (first | (with_reducible first | exact HI0.out | apply IsS78.alloc | apply IsS78.drewN | apply IsS78.drew | apply IsS78.set_1 | apply IsS78.set_2) | exact HI0.out), bl1 HB.out (IsS78.ge HI0.out), kb HK.out⟩
  ·rw [if_neg c5] at H
   have c5b0 : decide (200 < a1) = false := decide_eq_false c5
   clear c5
   by_cases c10 : a1 = 0
   ·rw [if_pos c10] at H
    exact absurd H (by simp)
   ·rw [if_neg c10] at H
    have c10b0 : (a1 == 0) = false := beq_eq_false_iff_ne.mpr c10
    have c10b1 : (a1 != 0) = true := bne_iff_ne.mpr c10
    simp only [Option.some.injEq, Prod.mk.injEq] at H
    obtain ⟨rfl, rfl, rfl⟩ := H
    go_enter Try.func47, Try.ntmps47
    go_wp2_with (first | (refine gL 72 Try.func72 (some 9) #[.pointer (some ⟨g, 0, none⟩)] ?_; (with_reducible refine (spec_l1Cur_next.calls g s0_0 s0_1 s0_2 t460 t461 t462 w0 _ ?side1 ?side2 A4.out).mono ?_); (case side1 => exact is HI0.out); (case side2 => exact bl1 HB.out (IsS78.ge HI0.out)); rintro e w11 ⟨rfl, hi, hb, hk⟩; refine ⟨_, rfl, ?_⟩; replace HK := ak (KeepBut.trans (kb HK.out) hk (.inl rfl)); replace HB := ak hb; replace HI0 := ak hi; clear hb hk hi))
    go_ret
    exact ⟨by first | rfl | (simp [errW_none, errW_some] <;> rfl) | (simp [*, errW_none, errW_some] <;> rfl), by repeat (first | (with_reducible first | exact HI0.out | apply IsS78.alloc | apply IsS78.drewN | apply IsS78.drew | apply IsS78.set_1 | apply IsS78.set_2) | exact HI0.out), bl1 HB.out (IsS78.ge HI0.out), kb HK.out⟩

/-! ### spec_l1Cur_of: function 66 -/
def spec_l1Cur_of.f (s0_0 : List Int) (s0_1 : Int) (s0_2 : Int) (l1 : List ByteArray) : Option (ByteArray × Int × Int) := (spec_l1Cur_pick.f s0_0 s0_1 s0_2 (l1.length : Int)).bind fun bt466 => (if 0 ≤ bt466.1 then (if bt466.1 < (l1.length : Int) then (some (rdOf ByteArray.empty l1 bt466.1, bt466.2.1, bt466.2.2)) else (none)) else (none))
set_option maxHeartbeats 8000000 in
set_option maxRecDepth 100000 in
theorem spec_l1Cur_of.calls (g : Nat) (s0_0 : List Int) (s0_1 : Int) (s0_2 : Int) (A1 : Option Addr) (c1 : Nat) (l1 : List ByteArray) (r1 : ByteArray) (r2 : Int) (r3 : Int) (w0 w : World) (hI : IsS78 w0 w g s0_0 s0_1 s0_2) (hB : Below w0.heap.size w0 w) (hr1 : Kd.C Kd.string w A1 l1.length l1) (hc1 : l1.length ≤ c1) (hf1 : ∀ ad, A1 = some ad → 0 < l1.length → ad.block ≠ g) (h : spec_l1Cur_of.f s0_0 s0_1 s0_2 l1 = some (r1, r2, r3)) :
  Calls Try.prog 66 #[.pointer (some ⟨g, 0, none⟩), .slice A1 l1.length c1] w fun e w' => e = .returned (.string r1) ∧ IsS78 w0 w' g s0_0 r2 r3 ∧ Below w0.heap.size w0 w' ∧ KeepBut w w' g none := by
 have HR1 := ak hr1
 have HC1 := ak hc1
 clear hr1 hc1
 have HI0 := ak hI
 have HK := ak (KeepBut.refl w g none)
 have HL := ak hB.size
 clear hI
 have HW0 := ak hB.size
 have HB := ak hB
 clear hB
 have H : ((spec_l1Cur_pick.f s0_0 s0_1 s0_2 (l1.length : Int)).bind fun bt466 => (if 0 ≤ bt466.1 then (if bt466.1 < (l1.length : Int) then (some (rdOf ByteArray.empty l1 bt466.1, bt466.2.1, bt466.2.2)) else (none)) else (none))) = some (r1, r2, r3) := h
 clear h
 replace H := Option.bind_eq_some_iff.mp H
 obtain ⟨⟨t466, t467, t468⟩, A30, H⟩ := H
 try dsimp only at H
 have A3 := ak A30
 clear A30
 by_cases c4 : 0 ≤ t466
 ·rw [if_pos c4] at H
  have c4b0 : decide (0 ≤ t466) = true := decide_eq_true c4
  clear c4
  by_cases c5 : t466 < (l1.length : Int)
  ·rw [if_pos c5] at H
   have c5b0 : decide (t466 < (l1.length : Int)) = true := decide_eq_true c5
   clear c5
   simp only [Option.some.injEq, Prod.mk.injEq] at H
   obtain ⟨rfl, rfl, rfl⟩ := H
   go_enter Try.func66, Try.ntmps66
   go_wp2_with (first | (refine gL 47 Try.func47 (some 9) #[.pointer (some ⟨g, 0, none⟩), .int .i64 (l1.length : Int)] ?_; (with_reducible refine (spec_l1Cur_pick.calls g s0_0 s0_1 s0_2 (l1.length : Int) t466 t467 t468 w0 _ ?side1 ?side2 A3.out).mono ?_); (case side1 => exact is HI0.out); (case side2 => exact bl1 HB.out (IsS78.ge HI0.out)); rintro e w6 ⟨rfl, hi, hb, hk⟩; refine ⟨_, rfl, ?_⟩; replace HK := ak (KeepBut.trans (kb HK.out) hk (.inl rfl)); replace HB := ak hb; replace HI0 := ak hi; clear hb hk hi; have p469 : 0 ≤ (t466 : Int) := od; have q469 : t466 < (l1.length : Int) := od; obtain ⟨ad469, e469, hx469_0⟩ := Kd.at_string HR1.out t466 p469 q469; cases e469; replace hx469_0 := keep_cell HK.out hx469_0 (by first | (rw [add_block]; exact hf1 _ rfl (by omega)) | exact hf1 _ rfl (by omega) | exact hf1 ad469 rfl (by omega)); replace p469 := eq_true p469; replace q469 := eq_true q469))
   go_ret
   exact ⟨by first | rfl | (simp [errW_none, errW_some] <;> rfl) | (simp [*, errW_none, errW_some] <;> rfl), by repeat (first | (with_reducible first | exact HI0.out | apply IsS78.alloc | apply IsS78.drewN | apply IsS78.drew | apply IsS78.set_1 | apply IsS78.set_2) | exact HI0.out), bl1 HB.out (IsS78.ge HI0.out), kb HK.out⟩
  ·rw [if_neg c5] at H
   exact absurd H (by simp)
 ·rw [if_neg c4] at H
  exact absurd H (by simp)

/-! ### spec_l1Cur_one: function 73 -/
def spec_l1Cur_one.f (s0_0 : List Int) (s0_1 : Int) (s0_2 : Int) (a1 : Int) : Option (Bool × Int × Int) := (spec_l1Cur_pick.f s0_0 s0_1 s0_2 a1).bind fun bt470 => (some ((bt470.1 == 0), bt470.2.1, bt470.2.2))
set_option maxHeartbeats 8000000 in
set_option maxRecDepth 100000 in
theorem spec_l1Cur_one.calls (g : Nat) (s0_0 : List Int) (s0_1 : Int) (s0_2 : Int) (a1 : Int) (r1 : Bool) (r2 : Int) (r3 : Int) (w0 w : World) (hI : IsS78 w0 w g s0_0 s0_1 s0_2) (hB : Below w0.heap.size w0 w) (h : spec_l1Cur_one.f s0_0 s0_1 s0_2 a1 = some (r1, r2, r3)) :
  Calls Try.prog 73 #[.pointer (some ⟨g, 0, none⟩), .int .i64 a1] w fun e w' => e = .returned (.bool r1) ∧ IsS78 w0 w' g s0_0 r2 r3 ∧ Below w0.heap.size w0 w' ∧ KeepBut w w' g none := by
 have HI0 := ak hI
 have HK := ak (KeepBut.refl w g none)
 have HL := ak hB.size
 clear hI
 have HW0 := ak hB.size
 have HB := ak hB
 clear hB
 have H : ((spec_l1Cur_pick.f s0_0 s0_1 s0_2 a1).bind fun bt470 => (some ((bt470.1 == 0), bt470.2.1, bt470.2.2))) = some (r1, r2, r3) := h
 clear h
 replace H := Option.bind_eq_some_iff.mp H
 obtain ⟨⟨t470, t471, t472⟩, A30, H⟩ := H
 try dsimp only at H
 have A3 := ak A30
 clear A30
 simp only [Option.some.injEq, Prod.mk.injEq] at H
 obtain ⟨rfl, rfl, rfl⟩ := H
 go_enter Try.func73, Try.ntmps73
 go_wp2_with (first | (refine gL 47 Try.func47 (some 7) #[.pointer (some ⟨g, 0, none⟩), .int .i64 a1] ?_; (with_reducible refine (spec_l1Cur_pick.calls g s0_0 s0_1 s0_2 a1 t470 t471 t472 w0 _ ?side1 ?side2 A3.out).mono ?_); (case side1 => exact is HI0.out); (case side2 => exact bl1 HB.out (IsS78.ge HI0.out)); rintro e w4 ⟨rfl, hi, hb, hk⟩; refine ⟨_, rfl, ?_⟩; replace HK := ak (KeepBut.trans (kb HK.out) hk (.inl rfl)); replace HB := ak hb; replace HI0 := ak hi; clear hb hk hi))
 go_ret
 exact ⟨by first | rfl | (simp [errW_none, errW_some] <;> rfl) | (simp [*, errW_none, errW_some] <;> rfl), by repeat (first | (with_reducible first | exact HI0.out | apply IsS78.alloc | apply IsS78.drewN | apply IsS78.drew | apply IsS78.set_1 | apply IsS78.set_2) | exact HI0.out), bl1 HB.out (IsS78.ge HI0.out), kb HK.out⟩

/-! ### spec_l1Cur_entry: function 64 -/
def spec_l1Cur_entry.j0 : Nat → List Int → Int → Int → ByteArray → ByteArray → Option (ByteArray × ByteArray × Int × Int)
 | 0, _, _, _, _, _ => none
 | k + 1, x1000, x1001, x1002, x487000, x487001 => (spec_l1Cur_pick.f x1000 x1001 x1002 60).bind fun bt496 => (if bt496.1 = 0 then ((spec_l1Cur_of.f x1000 bt496.2.1 bt496.2.2 (([(⟨#[]⟩ : ByteArray), (⟨#[49, 50, 51, 52, 53, 54, 55, 56, 57, 48, 49, 50, 51, 52, 53, 54, 55, 56, 57, 48, 49]⟩ : ByteArray)] : List ByteArray))).bind fun bt502 => (some (bt502.1, x487001, bt502.2.1, bt502.2.2))) else (if bt496.1 = 1 then ((spec_l1Cur_pick.f x1000 bt496.2.1 bt496.2.2 2).bind fun bt505 => (if 0 ≤ (wrap64 (60 + bt505.1)) then (if (wrap64 (60 + bt505.1) : Int).toNat ≤ 281474976710656 then (some (x487000, strOfNums (List.replicate (wrap64 (60 + bt505.1) : Int).toNat 0), bt505.2.1, bt505.2.2)) else (none)) else (none))) else (some (x487000, x487001, bt496.2.1, bt496.2.2))))
def spec_l1Cur_entry.f (k : Nat) (s0_0 : List Int) (s0_1 : Int) (s0_2 : Int) : Option (ByteArray × ByteArray × Int × Int) := (spec_l1Cur_of.f s0_0 s0_1 s0_2 (([(⟨#[97]⟩ : ByteArray), (⟨#[98]⟩ : ByteArray), (⟨#[99]⟩ : ByteArray), (⟨#[100]⟩ : ByteArray), (⟨#[101]⟩ : ByteArray), (⟨#[102]⟩ : ByteArray), (⟨#[103]⟩ : ByteArray)] : List ByteArray))).bind fun bt477 => ((spec_l1Cur_pick.f s0_0 bt477.2.1 bt477.2.2 60).bind fun bt480 => (if 0 ≤ (wrap64 (1 + bt480.1)) then (if (wrap64 (1 + bt480.1) : Int).toNat ≤ 281474976710656 then ((spec_l1Cur_one.f s0_0 bt480.2.1 bt480.2.2 3).bind fun bt487 => (if bt487.1 = true then ((spec_l1Cur_of.f s0_0 bt487.2.1 bt487.2.2 (([(⟨#[118]⟩ : ByteArray), (⟨#[119]⟩ : ByteArray), (⟨#[108, 111, 110, 103, 32, 118, 97, 108, 117, 101]⟩ : ByteArray)] : List ByteArray))).bind fun bt493 => (spec_l1Cur_entry.j0 k s0_0 bt493.2.1 bt493.2.2 bt477.1 bt493.1)) else (spec_l1Cur_entry.j0 k s0_0 bt487.2.1 bt487.2.2 bt477.1 (strOfNums (List.replicate (wrap64 (1 + bt480.1) : Int).toNat 0))))) else (none)) else (none)))
theorem spec_l1Cur_entry.mono_l : ∀ k, (∀ y0 y1 y2 y3 y4, LeO (spec_l1Cur_entry.j0 k y0 y1 y2 y3 y4) (spec_l1Cur_entry.j0 (k + 1) y0 y1 y2 y3 y4))
 | 0 => fun _ _ _ _ _ r h => by simp [spec_l1Cur_entry.j0] at h
 | k + 1 => by
  have ih0 := spec_l1Cur_entry.mono_l k
  ·intro y0 y1 y2 y3 y4
   unfold spec_l1Cur_entry.j0
   repeat' first
   | (with_reducible exact ih0 _ _ _ _ _)
   | (with_reducible exact LeO.refl _)
   | (with_reducible exact LeO.none _)
   | (with_reducible refine LeO.ite ?_ ?_)
   | (with_reducible refine LeO.bind ?_ (fun _ => ?_))
   | exact ih0 _ _ _ _ _
   | exact LeO.none _
   | refine LeO.ite ?_ ?_
   | refine LeO.bind ?_ (fun _ => ?_)
theorem spec_l1Cur_entry.mono : ∀ a0 a1 a2 k, LeO (spec_l1Cur_entry.f k a0 a1 a2) (spec_l1Cur_entry.f (k + 1) a0 a1 a2) := by
 intro a0 a1 a2 k
 have ih0 := spec_l1Cur_entry.mono_l k
 unfold spec_l1Cur_entry.f
 repeat' first
   | (with_reducible exact ih0 _ _ _ _ _)
   | (with_reducible exact LeO.refl _)
   | (with_reducible exact LeO.none _)
   | (with_reducible refine LeO.ite ?_ ?_)
   | (with_reducible refine LeO.bind ?_ (fun _ => ?_))
   | exact ih0 _ _ _ _ _
   | exact LeO.none _
   | refine LeO.ite ?_ ?_
   | refine LeO.bind ?_ (fun _ => ?_)
set_option maxHeartbeats 8000000 in
set_option maxRecDepth 100000 in
theorem spec_l1Cur_entry.calls (k : Nat) (g : Nat) (s0_0 : List Int) (s0_1 : Int) (s0_2 : Int) (r1 : ByteArray) (r2 : ByteArray) (r3 : Int) (r4 : Int) (w0 w : World) (hI : IsS78 w0 w g s0_0 s0_1 s0_2) (hB : Below w0.heap.size w0 w) (h : spec_l1Cur_entry.f k s0_0 s0_1 s0_2 = some (r1, r2, r3, r4)) :
  Calls Try.prog 64 #[.pointer (some ⟨g, 0, none⟩)] w fun e w' => e = .returned (.agg #[.string r1, .string r2]) ∧ IsS78 w0 w' g s0_0 r3 r4 ∧ Below w0.heap.size w0 w' ∧ KeepBut w w' g none := by
 have hu45 := Try.underlying45
 have HI0 := ak hI
 have HK := ak (KeepBut.refl w g none)
 have HL := ak hB.size
 clear hI
 have HW0 := ak hB.size
 have HB := ak hB
 clear hB
 have H : ((spec_l1Cur_of.f s0_0 s0_1 s0_2 (([(⟨#[97]⟩ : ByteArray), (⟨#[98]⟩ : ByteArray), (⟨#[99]⟩ : ByteArray), (⟨#[100]⟩ : ByteArray), (⟨#[101]⟩ : ByteArray), (⟨#[102]⟩ : ByteArray), (⟨#[103]⟩ : ByteArray)] : List ByteArray))).bind fun bt477 => ((spec_l1Cur_pick.f s0_0 bt477.2.1 bt477.2.2 60).bind fun bt480 => (if 0 ≤ (wrap64 (1 + bt480.1)) then (if (wrap64 (1 + bt480.1) : Int).toNat ≤ 281474976710656 then ((spec_l1Cur_one.f s0_0 bt480.2.1 bt480.2.2 3).bind fun bt487 => (if bt487.1 = true then ((spec_l1Cur_of.f s0_0 bt487.2.1 bt487.2.2 (([(⟨#[118]⟩ : ByteArray), (⟨#[119]⟩ : ByteArray), (⟨#[108, 111, 110, 103, 32, 118, 97, 108, 117, 101]⟩ : ByteArray)] : List ByteArray))).bind fun bt493 => (spec_l1Cur_entry.j0 k s0_0 bt493.2.1 bt493.2.2 bt477.1 bt493.1)) else (spec_l1Cur_entry.j0 k s0_0 bt487.2.1 bt487.2.2 bt477.1 (strOfNums (List.replicate (wrap64 (1 + bt480.1) : Int).toNat 0))))) else (none)) else (none)))) = some (r1, r2, r3, r4) := h
 clear h
 obtain ⟨y474, hy474⟩ : ∃ y_ : List ByteArray, y_ = (([(⟨#[97]⟩ : ByteArray), (⟨#[98]⟩ : ByteArray), (⟨#[99]⟩ : ByteArray), (⟨#[100]⟩ : ByteArray), (⟨#[101]⟩ : ByteArray), (⟨#[102]⟩ : ByteArray), (⟨#[103]⟩ : ByteArray)] : List ByteArray)) := ⟨_, rfl⟩
 replace H : ((spec_l1Cur_of.f s0_0 s0_1 s0_2 y474).bind fun bt477 => ((spec_l1Cur_pick.f s0_0 bt477.2.1 bt477.2.2 60).bind fun bt480 => (if 0 ≤ (wrap64 (1 + bt480.1)) then (if (wrap64 (1 + bt480.1) : Int).toNat ≤ 281474976710656 then ((spec_l1Cur_one.f s0_0 bt480.2.1 bt480.2.2 3).bind fun bt487 => (if bt487.1 = true then ((spec_l1Cur_of.f s0_0 bt487.2.1 bt487.2.2 (([(⟨#[118]⟩ : ByteArray), (⟨#[119]⟩ : ByteArray), (⟨#[108, 111, 110, 103, 32, 118, 97, 108, 117, 101]⟩ : ByteArray)] : List ByteArray))).bind fun bt493 => (spec_l1Cur_entry.j0 k s0_0 bt493.2.1 bt493.2.2 bt477.1 bt493.1)) else (spec_l1Cur_entry.j0 k s0_0 bt487.2.1 bt487.2.2 bt477.1 (strOfNums (List.replicate (wrap64 (1 + bt480.1) : Int).toNat 0))))) else (none)) else (none)))) = some (r1, r2, r3, r4) := by first | (rw [hy474]; with_reducible exact H) | (have H2_ := (Option.bind_some _ _).symm.trans H; rw [hy474]; with_reducible exact H2_) | (have H2_ := (Option.bind_some _ _).symm.trans H; with_reducible exact H2_) | with_reducible exact H | (rw [hy474]; exact H) | exact H
 have Ny474 := ak hy474
 clear hy474
 replace H := Option.bind_eq_some_iff.mp H
 obtain ⟨⟨t477, t478, t479⟩, A20, H⟩ := H
 try dsimp only at H
 have A2 := ak A20
 clear A20
 replace H := Option.bind_eq_some_iff.mp H
 obtain ⟨⟨t480, t481, t482⟩, A30, H⟩ := H
 try dsimp only at H
 have A3 := ak A30
 clear A30
 obtain ⟨ji4, hji4⟩ : ∃ j_ : Int, (wrap64 (1 + t480)) = j_ := ⟨_, rfl⟩
 replace H : (if 0 ≤ (ji4) then (if (ji4 : Int).toNat ≤ 281474976710656 then ((spec_l1Cur_one.f s0_0 t481 t482 3).bind fun bt487 => (if bt487.1 = true then ((spec_l1Cur_of.f s0_0 bt487.2.1 bt487.2.2 (([(⟨#[118]⟩ : ByteArray), (⟨#[119]⟩ : ByteArray), (⟨#[108, 111, 110, 103, 32, 118, 97, 108, 117, 101]⟩ : ByteArray)] : List ByteArray))).bind fun bt493 => (spec_l1Cur_entry.j0 k s0_0 bt493.2.1 bt493.2.2 t477 bt493.1)) else (spec_l1Cur_entry.j0 k s0_0 bt487.2.1 bt487.2.2 t477 (strOfNums (List.replicate (ji4 : Int).toNat 0))))) else (none)) else (none)) = some (r1, r2, r3, r4) := by first | (rw [hji4] at H; exact H) | (simp only [hji4] at H ⊢; exact H)
 (try rw [hji4] at A2)
 (try rw [hji4] at A3)
 have hji4w : (IntKind.i64.wrap (1 + t480)) = ji4 := (i64_w _).trans hji4
 by_cases c5 : 0 ≤ (ji4)
 ·rw [if_pos c5] at H
  have c5b0 := eq_true c5
  have c5b1 : decide (0 ≤ (ji4)) = true := decide_eq_true c5
  clear c5
  by_cases c6 : (ji4 : Int).toNat ≤ 281474976710656
  ·rw [if_pos c6] at H
   have c6b0 := eq_true c6
   have c6b1 : decide ((ji4 : Int).toNat ≤ 281474976710656) = true := decide_eq_true c6
   clear c6
   obtain ⟨y483, hy483⟩ : ∃ y_ : List Int, y_ = (List.replicate (ji4 : Int).toNat 0) := ⟨_, rfl⟩
   replace H : ((spec_l1Cur_one.f s0_0 t481 t482 3).bind fun bt487 => (if bt487.1 = true then ((spec_l1Cur_of.f s0_0 bt487.2.1 bt487.2.2 (([(⟨#[118]⟩ : ByteArray), (⟨#[119]⟩ : ByteArray), (⟨#[108, 111, 110, 103, 32, 118, 97, 108, 117, 101]⟩ : ByteArray)] : List ByteArray))).bind fun bt493 => (spec_l1Cur_entry.j0 k s0_0 bt493.2.1 bt493.2.2 t477 bt493.1)) else (spec_l1Cur_entry.j0 k s0_0 bt487.2.1 bt487.2.2 t477 (strOfNums y483)))) = some (r1, r2, r3, r4) := by first | (rw [hy483]; with_reducible exact H) | (have H2_ := (Option.bind_some _ _).symm.trans H; rw [hy483]; with_reducible exact H2_) | (have H2_ := (Option.bind_some _ _).symm.trans H; with_reducible exact H2_) | with_reducible exact H | (rw [hy483]; exact H) | exact H
   have Ny483 := ak hy483
   clear hy483
   replace H := Option.bind_eq_some_iff.mp H
   obtain ⟨⟨t487, t488, t489⟩, A70, H⟩ := H
   try dsimp only at H
   have A7 := ak A70
   clear A70
   have HC8 := ak H
   clear H
   go_enter Try.func64, Try.ntmps64
   go_upto_if 14 with (first | (refine bE 2 #[.string (⟨#[]⟩ : ByteArray), .string (⟨#[]⟩ : ByteArray)] 45 ?_; intro gb473 hg w9 hbox hb; replace HB := ak (below_step (bl1 HB.out (IsS78.ge HI0.out)) hb); have BK473 := ak hbox; have GW473 := ak (gb hg (kb HK.out)); have GE473 := ak ((Nat.le_trans HW0.out (gb hg (kb HK.out)) : w0.heap.size ≤ gb473)); replace HK := ak (KeepBut.trans (kb HK.out) (KeepBut.of_below hb g none) (.inl rfl)); have NB0_473 := ak ((by rw [hg]; exact Nat.ne_of_lt (IsS78.lt (show IsS78 w0 _ g s0_0 s0_1 s0_2 from is HI0.out)) : g ≠ gb473)); have NB473_0 := ak ((by rw [hg]; exact Nat.ne_of_gt (IsS78.lt (show IsS78 w0 _ g s0_0 s0_1 s0_2 from is HI0.out)) : gb473 ≠ g)); replace HI0 := ak (IsS78.below (is HI0.out) hb); clear hb hbox hg) | ((with_reducible refine gate_dst (N := 5) rfl ?_); refine Kd.R_lit Kd.string _ 9 ?hg (N := 5) ?hd (xs := ([(⟨#[97]⟩ : ByteArray), (⟨#[98]⟩ : ByteArray), (⟨#[99]⟩ : ByteArray), (⟨#[100]⟩ : ByteArray), (⟨#[101]⟩ : ByteArray), (⟨#[102]⟩ : ByteArray), (⟨#[103]⟩ : ByteArray)] : List ByteArray)) (inner := [.string (⟨#[97]⟩ : ByteArray), .string (⟨#[98]⟩ : ByteArray), .string (⟨#[99]⟩ : ByteArray), .string (⟨#[100]⟩ : ByteArray), .string (⟨#[101]⟩ : ByteArray), .string (⟨#[102]⟩ : ByteArray), .string (⟨#[103]⟩ : ByteArray)]) (ok := fun _ => True) (okp := fun _ => True) ?hr ?hp (fun _ hk => hk) trivial (Below.refl _ _) (Nat.le_refl _) (by simp) ?_; (case hd => rfl); (case hg => rfl); (case hr => first | (go_simp; done) | (go_simp; rfl)); (case hp => exact (Reps.one (show Kd.M Kd.string _ _ _ (⟨#[97]⟩ : ByteArray) [.string (⟨#[97]⟩ : ByteArray)] from rfl) (Reps.one (show Kd.M Kd.string _ _ _ (⟨#[98]⟩ : ByteArray) [.string (⟨#[98]⟩ : ByteArray)] from rfl) (Reps.one (show Kd.M Kd.string _ _ _ (⟨#[99]⟩ : ByteArray) [.string (⟨#[99]⟩ : ByteArray)] from rfl) (Reps.one (show Kd.M Kd.string _ _ _ (⟨#[100]⟩ : ByteArray) [.string (⟨#[100]⟩ : ByteArray)] from rfl) (Reps.one (show Kd.M Kd.string _ _ _ (⟨#[101]⟩ : ByteArray) [.string (⟨#[101]⟩ : ByteArray)] from rfl) (Reps.one (show Kd.M Kd.string _ _ _ (⟨#[102]⟩ : ByteArray) [.string (⟨#[102]⟩ : ByteArray)] from rfl) (Reps.one (show Kd.M Kd.string _ _ _ (⟨#[103]⟩ : ByteArray) [.string (⟨#[103]⟩ : ByteArray)] from rfl) (Reps.none _ _))))))))); intro v475 w10 ho11 hb hg_ hnew_; clear hg_ hnew_; (first | rw [← Ny474.out] at ho11 | (simp only [Int.reduceToNat] at ho11; rw [← Ny474.out] at ho11)); have HO476 := ak (Kd.R_lower ho11 (keep_size (kb1 HK.out GW473.out))); replace BK473 := ak (blk_below (bk BK473.out) hb); replace HK := ak (KeepBut.trans (kb1 HK.out GW473.out) (KeepBut.of_below hb g none) (.inl rfl)); replace HB := ak (below_step (bl2 HB.out (IsS78.ge HI0.out) GE473.out) hb); replace HI0 := ak (IsS78.below (is1 HI0.out NB0_473.out) hb); clear hb ho11; obtain ⟨Ao12, co12, eo12⟩ := Kd.R_slice HO476.out; subst eo12) | (refine gL 66 Try.func66 (some 6) #[.pointer (some ⟨g, 0, none⟩), .slice Ao12 y474.length co12] ?_; (with_reducible refine (spec_l1Cur_of.calls g s0_0 s0_1 s0_2 _ _ y474 t477 t478 t479 w0 _ ?side1 ?side2 ?side3 ?side4 ?side5 A2.out).mono ?_); (case side1 => exact is1 HI0.out NB0_473.out); (case side2 => exact bl2 HB.out (IsS78.ge HI0.out) GE473.out); (case side3 => exact kc (Kd.R_reads' HO476.out).2.2); (case side4 => exact (Kd.R_reads' HO476.out).2.1); (case side5 => exact far_slice (IsS78.own_ne HI0.out HO476.out (by decide))); rintro e w13 ⟨rfl, hi, hb, hk⟩; refine ⟨_, rfl, ?_⟩; replace BK473 := ak (KeepBut.blk hk (g' := gb473) (o := .cells #[.string (⟨#[]⟩ : ByteArray), .string (⟨#[]⟩ : ByteArray)] 45 (0, 0)) (bk BK473.out) NB473_0.out (by simp)); replace HO476 := ak (Kd.R_mono (Kd.R_keep (IsS78.apart (show IsS78 w0 _ g s0_0 s0_1 s0_2 from is1 HI0.out NB0_473.out) (kr HO476.out) (by decide)) hk (fun _ h => h.2)) (fun _ h => h.1)); replace HK := ak (KeepBut.trans (kb1 HK.out GW473.out) hk (.inl rfl)); replace HB := ak hb; replace HI0 := ak hi; clear hb hk hi) | (refine gL 47 Try.func47 (some 8) #[.pointer (some ⟨g, 0, none⟩), .int .i64 60] ?_; (with_reducible refine (spec_l1Cur_pick.calls g s0_0 t478 t479 60 t480 t481 t482 w0 _ ?side1 ?side2 A3.out).mono ?_); (case side1 => exact is1 HI0.out NB0_473.out); (case side2 => exact bl2 HB.out (IsS78.ge HI0.out) GE473.out); rintro e w14 ⟨rfl, hi, hb, hk⟩; refine ⟨_, rfl, ?_⟩; replace BK473 := ak (KeepBut.blk hk (g' := gb473) (o := .cells #[.string (⟨#[]⟩ : ByteArray), .string (⟨#[]⟩ : ByteArray)] 45 (0, 0)) (bk BK473.out) NB473_0.out (by simp)); replace HO476 := ak (Kd.R_mono (Kd.R_keep (IsS78.apart (show IsS78 w0 _ g s0_0 t478 t479 from is1 HI0.out NB0_473.out) (kr HO476.out) (by decide)) hk (fun _ h => h.2)) (fun _ h => h.1)); replace HK := ak (KeepBut.trans (kb1 HK.out GW473.out) hk (.inl rfl)); replace HB := ak hb; replace HI0 := ak hi; clear hb hk hi) | ((with_reducible refine gate_dst (N := 10) rfl ?_); refine Kd.R_make (Kd.int .u8) _ 5 rfl (N := 10) rfl 35 _ _ rfl ji4 rfl rfl Try.underlying35 (.int .u8 0) 1 info5 rfl (by decide) (by omega) 0 (ok := fun _ => True) (okp := fun _ => True) rfl (fun _ hk => hk) trivial (od) (Nat.le_trans (Nat.mul_le_mul_right _ (od : ji4.toNat ≤ 281474976710656)) (by omega)) (Below.refl _ _) (Nat.le_refl _) ?_; intro v484 w15 ho16 hb hg_ hnew_; clear hg_ hnew_; (first | rw [← Ny483.out] at ho16 | (simp only [Int.reduceToNat] at ho16; rw [← Ny483.out] at ho16)); replace HO476 := ak (Kd.R_below (kr HO476.out) hb); have HO485 := ak (Kd.R_lower ho16 (keep_size (kb1 HK.out GW473.out))); replace BK473 := ak (blk_below (bk BK473.out) hb); replace HK := ak (KeepBut.trans (kb1 HK.out GW473.out) (KeepBut.of_below hb g none) (.inl rfl)); replace HB := ak (below_step (bl2 HB.out (IsS78.ge HI0.out) GE473.out) hb); replace HI0 := ak (IsS78.below (is1 HI0.out NB0_473.out) hb); clear hb ho16; have hcv17 := own_string (P := Try.prog) Try.underlying35 Try.underlying5 Try.underlying9 (Kd.own_of_R HO485.out)) | (refine bE 3 #[.string (⟨#[]⟩ : ByteArray), .string (⟨#[]⟩ : ByteArray)] 45 ?_; intro gb486 hg w18 hbox hb; replace HO476 := ak (Kd.R_below (kr HO476.out) hb); replace HO485 := ak (Kd.R_below (kr HO485.out) hb); replace HB := ak (below_step (bl2 HB.out (IsS78.ge HI0.out) GE473.out) hb); have BK486 := ak hbox; have GW486 := ak (gb hg (kb1 HK.out GW473.out)); have GE486 := ak ((Nat.le_trans HW0.out (gb hg (kb1 HK.out GW473.out)) : w0.heap.size ≤ gb486)); replace HK := ak (KeepBut.trans (kb1 HK.out GW473.out) (KeepBut.of_below hb g none) (.inl rfl)); have NB473_486 := nl hg BK473.out; have NB486_473 := ng hg BK473.out; replace BK473 := ak (blk_below (bk BK473.out) hb); have NB0_486 := ak ((by rw [hg]; exact Nat.ne_of_lt (IsS78.lt (show IsS78 w0 _ g s0_0 t481 t482 from is1 HI0.out NB0_473.out)) : g ≠ gb486)); have NB486_0 := ak ((by rw [hg]; exact Nat.ne_of_gt (IsS78.lt (show IsS78 w0 _ g s0_0 t481 t482 from is1 HI0.out NB0_473.out)) : gb486 ≠ g)); replace HI0 := ak (IsS78.below (is1 HI0.out NB0_473.out) hb); clear hb hbox hg; have hnb19 := NB486_473.out; have hnc19 := NB473_486.out; have hnb20 := NB486_0.out; have hnc20 := NB0_486.out; obtain ⟨hcz21_0, hcz21_1, hfz21_0, hfz21_1⟩ := b2 BK486.out) | (refine gL 73 Try.func73 (some 14) #[.pointer (some ⟨g, 0, none⟩), .int .i64 3] ?_; (with_reducible refine (spec_l1Cur_one.calls g s0_0 t481 t482 3 t487 t488 t489 w0 _ ?side1 ?side2 A7.out).mono ?_); (case side1 => exact is2 HI0.out NB0_473.out NB0_486.out); (case side2 => exact bl3 HB.out (IsS78.ge HI0.out) GE473.out GE486.out); rintro e w22 ⟨rfl, hi, hb, hk⟩; refine ⟨_, rfl, ?_⟩; replace BK473 := ak (KeepBut.blk hk (g' := gb473) (o := .cells #[.string (⟨#[]⟩ : ByteArray), .string (⟨#[]⟩ : ByteArray)] 45 (0, 0)) (bq BK473.out) NB473_0.out (by simp)); replace HO476 := ak (Kd.R_mono (Kd.R_keep (IsS78.apart (show IsS78 w0 _ g s0_0 t481 t482 from is2 HI0.out NB0_473.out NB0_486.out) (by (with_reducible repeat (first | apply Kd.R_alloc | apply Kd.R_drewN | apply Kd.R_drew)); exact (Kd.R_mono (Kd.R_far (p := ⟨gb486, 1, none⟩) (Kd.R_far (p := ⟨gb486, 0, none⟩) (Kd.R_types HO476.out BK486.out (by decide)) (fun _ hk => hk.2) (.string t477)) (fun _ hk => hk.2) (.string (strOfNums y483))) (fun _ h_ => h_.1))) (by decide)) hk (fun _ h => h.2)) (fun _ h => h.1)); replace HO485 := ak (Kd.R_mono (Kd.R_keep (IsS78.apart (show IsS78 w0 _ g s0_0 t481 t482 from is2 HI0.out NB0_473.out NB0_486.out) (by (with_reducible repeat (first | apply Kd.R_alloc | apply Kd.R_drewN | apply Kd.R_drew)); exact (Kd.R_mono (Kd.R_far (p := ⟨gb486, 1, none⟩) (Kd.R_far (p := ⟨gb486, 0, none⟩) (Kd.R_types HO485.out BK486.out (by decide)) (fun _ hk => hk.2) (.string t477)) (fun _ hk => hk.2) (.string (strOfNums y483))) (fun _ h_ => h_.1))) (by decide)) hk (fun _ h => h.2)) (fun _ h => h.1)); replace BK486 := ak (KeepBut.blk hk (g' := gb486) (o := .cells #[.string t477, .string (strOfNums y483)] 45 (0, 0)) (bq BK486.out) NB486_0.out (by simp)); replace HK := ak (KeepBut.trans (kb2 HK.out GW473.out GW486.out) hk (.inl rfl)); replace HB := ak hb; replace HI0 := ak hi; clear hb hk hi))
   (try simp only [Act.put, List.setIfInBounds_toArray, List.set_cons_zero, List.set_cons_succ])
   go_cut [] (fun wc => ∃ (kq : Nat) (x1001_7 : Int) (x1002_7 : Int) (x487001_7 : ByteArray), Aside0 (spec_l1Cur_entry.j0 kq s0_0 x1001_7 x1002_7 t477 x487001_7 = some (r1, r2, r3, r4)) ∧ Aside0 (kq ≤ k) ∧ Aside0 (wc.heap[gb473]? = some (.cells #[.string (⟨#[]⟩ : ByteArray), .string (⟨#[]⟩ : ByteArray)] 45 (0, 0))) ∧ Aside0 (wc.heap[gb486]? = some (.cells #[.string t477, .string x487001_7] 45 (0, 0))) ∧ Aside0 (IsS78 w0 wc g s0_0 x1001_7 x1002_7) ∧ Aside0 (KeepBut w wc g none) ∧ Aside0 (Below w0.heap.size w0 wc))
   case first =>
    have H := HC8.out
    clear HC8
    by_cases c23 : t487 = true
    ·subst c23
     have H1 : ((spec_l1Cur_of.f s0_0 t488 t489 (([(⟨#[118]⟩ : ByteArray), (⟨#[119]⟩ : ByteArray), (⟨#[108, 111, 110, 103, 32, 118, 97, 108, 117, 101]⟩ : ByteArray)] : List ByteArray))).bind fun bt493 => (spec_l1Cur_entry.j0 k s0_0 bt493.2.1 bt493.2.2 t477 bt493.1)) = some (r1, r2, r3, r4) := by rw [if_pos rfl] at H; exact H
     clear H
     have H := H1
     clear H1
     obtain ⟨y490, hy490⟩ : ∃ y_ : List ByteArray, y_ = (([(⟨#[118]⟩ : ByteArray), (⟨#[119]⟩ : ByteArray), (⟨#[108, 111, 110, 103, 32, 118, 97, 108, 117, 101]⟩ : ByteArray)] : List ByteArray)) := ⟨_, rfl⟩
     replace H : ((spec_l1Cur_of.f s0_0 t488 t489 y490).bind fun bt493 => (spec_l1Cur_entry.j0 k s0_0 bt493.2.1 bt493.2.2 t477 bt493.1)) = some (r1, r2, r3, r4) := by first | (rw [hy490]; with_reducible exact H) | (have H2_ := (Option.bind_some _ _).symm.trans H; rw [hy490]; with_reducible exact H2_) | (have H2_ := (Option.bind_some _ _).symm.trans H; with_reducible exact H2_) | with_reducible exact H | (rw [hy490]; exact H) | exact H
     have Ny490 := ak hy490
     clear hy490
     replace H := Option.bind_eq_some_iff.mp H
     obtain ⟨⟨t493, t494, t495⟩, A240, H⟩ := H
     try dsimp only at H
     have A24 := ak A240
     clear A240
     have H' := ak H
     clear H
     go_wp2_with (first | ((with_reducible refine gate_dst (N := 16) rfl ?_); refine Kd.R_lit Kd.string _ 9 ?hg (N := 16) ?hd (xs := ([(⟨#[118]⟩ : ByteArray), (⟨#[119]⟩ : ByteArray), (⟨#[108, 111, 110, 103, 32, 118, 97, 108, 117, 101]⟩ : ByteArray)] : List ByteArray)) (inner := [.string (⟨#[118]⟩ : ByteArray), .string (⟨#[119]⟩ : ByteArray), .string (⟨#[108, 111, 110, 103, 32, 118, 97, 108, 117, 101]⟩ : ByteArray)]) (ok := fun _ => True) (okp := fun _ => True) ?hr ?hp (fun _ hk => hk) trivial (Below.refl _ _) (Nat.le_refl _) (by simp) ?_; (case hd => rfl); (case hg => rfl); (case hr => first | (go_simp; done) | (go_simp; rfl)); (case hp => exact (Reps.one (show Kd.M Kd.string _ _ _ (⟨#[118]⟩ : ByteArray) [.string (⟨#[118]⟩ : ByteArray)] from rfl) (Reps.one (show Kd.M Kd.string _ _ _ (⟨#[119]⟩ : ByteArray) [.string (⟨#[119]⟩ : ByteArray)] from rfl) (Reps.one (show Kd.M Kd.string _ _ _ (⟨#[108, 111, 110, 103, 32, 118, 97, 108, 117, 101]⟩ : ByteArray) [.string (⟨#[108, 111, 110, 103, 32, 118, 97, 108, 117, 101]⟩ : ByteArray)] from rfl) (Reps.none _ _))))); intro v491 w25 ho26 hb hg_ hnew_; clear hg_ hnew_; (first | rw [← Ny490.out] at ho26 | (simp only [Int.reduceToNat] at ho26; rw [← Ny490.out] at ho26)); replace HO485 := ak (Kd.R_below (kr HO485.out) hb); have HO492 := ak (Kd.R_lower (Kd.R_new' ho26 (Kd.R_lt (kr HO476.out))) (keep_size (kb2 HK.out GW473.out GW486.out))); replace HO476 := ak (Kd.R_elder' (kr HO476.out) (Kd.R_base ho26) hb); replace BK473 := ak (blk_below (bk BK473.out) hb); replace BK486 := ak (blk_below (bk BK486.out) hb); replace HK := ak (KeepBut.trans (kb2 HK.out GW473.out GW486.out) (KeepBut.of_below hb g none) (.inl rfl)); replace HB := ak (below_step (bl3 HB.out (IsS78.ge HI0.out) GE473.out GE486.out) hb); replace HI0 := ak (IsS78.below (is2 HI0.out NB0_473.out NB0_486.out) hb); clear hb ho26; obtain ⟨Ao27, co27, eo27⟩ := Kd.R_slice HO492.out; subst eo27) | (refine gL 66 Try.func66 (some 17) #[.pointer (some ⟨g, 0, none⟩), .slice Ao27 y490.length co27] ?_; (with_reducible refine (spec_l1Cur_of.calls g s0_0 t488 t489 _ _ y490 t493 t494 t495 w0 _ ?side1 ?side2 ?side3 ?side4 ?side5 A24.out).mono ?_); (case side1 => exact is2 HI0.out NB0_473.out NB0_486.out); (case side2 => exact bl3 HB.out (IsS78.ge HI0.out) GE473.out GE486.out); (case side3 => exact kc (Kd.R_reads' HO492.out).2.2); (case side4 => exact (Kd.R_reads' HO492.out).2.1); (case side5 => exact far_slice (IsS78.own_ne HI0.out HO492.out (by decide))); rintro e w28 ⟨rfl, hi, hb, hk⟩; refine ⟨_, rfl, ?_⟩; replace BK473 := ak (KeepBut.blk hk (g' := gb473) (o := .cells #[.string (⟨#[]⟩ : ByteArray), .string (⟨#[]⟩ : ByteArray)] 45 (0, 0)) (bk BK473.out) NB473_0.out (by simp)); replace HO476 := ak (Kd.R_mono (Kd.R_keep (IsS78.apart (show IsS78 w0 _ g s0_0 t488 t489 from is2 HI0.out NB0_473.out NB0_486.out) (kr HO476.out) (by decide)) hk (fun _ h => h.2)) (fun _ h => h.1)); replace HO485 := ak (Kd.R_mono (Kd.R_keep (IsS78.apart (show IsS78 w0 _ g s0_0 t488 t489 from is2 HI0.out NB0_473.out NB0_486.out) (kr HO485.out) (by decide)) hk (fun _ h => h.2)) (fun _ h => h.1)); replace BK486 := ak (KeepBut.blk hk (g' := gb486) (o := .cells #[.string t477, .string (strOfNums y483)] 45 (0, 0)) (bk BK486.out) NB486_0.out (by simp)); replace HO492 := ak (Kd.R_mono (Kd.R_keep (IsS78.apart (show IsS78 w0 _ g s0_0 t488 t489 from is2 HI0.out NB0_473.out NB0_486.out) (kr HO492.out) (by decide)) hk (fun _ h => h.2)) (fun _ h => h.1)); replace HK := ak (KeepBut.trans (kb2 HK.out GW473.out GW486.out) hk (.inl rfl)); replace HB := ak hb; replace HI0 := ak hi; clear hb hk hi; have hnb29 := NB486_473.out; have hnc29 := NB473_486.out; have hnb30 := NB486_0.out; have hnc30 := NB0_486.out; obtain ⟨hcz31_0, hcz31_1, hfz31_0, hfz31_1⟩ := b2 BK486.out))
     go_meet
     case rel => exact ⟨_, (t494), (t495), (t493), H', ⟨by first | omega | exact Nat.le_refl _⟩, ⟨by (with_reducible repeat (first | refine blk_drewN ?_ _ | refine blk_drew ?_ | refine blk_alloc ?_ _)); refine blk_far ?_ NB473_486.out _; exact bk BK473.out⟩, ⟨by (with_reducible repeat (first | refine blk_drewN ?_ _ | refine blk_drew ?_ | refine blk_alloc ?_ _)); refine blk_put (cs := #[.string t477, .string (strOfNums y483)]) ?_ 1 _ rfl; exact bk BK486.out⟩, ⟨by repeat (first | (with_reducible first | exact HI0.out | apply IsS78.alloc | apply IsS78.drewN | apply IsS78.drew | apply IsS78.set_1 | apply IsS78.set_2 | refine IsS78.far ?_ NB0_473.out _ | refine IsS78.far ?_ NB0_486.out _) | exact HI0.out)⟩, ⟨by repeat (first | (with_reducible first | exact HK.out | apply KeepBut.set_ | apply keep_drewN | apply keep_drew | apply keep_alloc | refine keep_far ?_ GW473.out _ | refine keep_far ?_ GW486.out _) | exact HK.out)⟩, ⟨bl3 HB.out (IsS78.ge HI0.out) GE473.out GE486.out⟩⟩
    ·replace c23 := Bool.eq_false_iff.mpr c23
     subst c23
     have H1 : (spec_l1Cur_entry.j0 k s0_0 t488 t489 t477 (strOfNums y483)) = some (r1, r2, r3, r4) := by rw [if_neg (show ¬ (false = true) by decide)] at H; exact H
     clear H
     have H := H1
     clear H1
     have H' := ak H
     clear H
     go_wp2
     go_meet
     case rel => exact ⟨_, (t488), (t489), (strOfNums y483), H', ⟨by first | omega | exact Nat.le_refl _⟩, ⟨bk BK473.out⟩, ⟨bk BK486.out⟩, ⟨by repeat (first | (with_reducible first | exact HI0.out | apply IsS78.alloc | apply IsS78.drewN | apply IsS78.drew | apply IsS78.set_1 | apply IsS78.set_2 | refine IsS78.far ?_ NB0_473.out _ | refine IsS78.far ?_ NB0_486.out _) | exact HI0.out)⟩, ⟨by repeat (first | (with_reducible first | exact HK.out | apply KeepBut.set_ | apply keep_drewN | apply keep_drew | apply keep_alloc | refine keep_far ?_ GW473.out _ | refine keep_far ?_ GW486.out _) | exact HK.out)⟩, ⟨bl3 HB.out (IsS78.ge HI0.out) GE473.out GE486.out⟩⟩
   case rest =>
    clear HC8
    try clear c1
    try clear hcv1
    try clear c2
    try clear p2
    try clear c3
    try clear c4
    try clear c5
    try clear c5b0
    try clear c5b1
    try clear c6
    try clear c6b0
    try clear c6b1
    try clear p6
    try clear c7
    try clear hcv17
    try clear c19
    try clear c20
    try clear c23
    try clear c29
    try clear c30
    try clear hcz21_0
    try clear hcz21_1
    try clear hcz31_0
    try clear hcz31_1
    try clear hfz21_0
    try clear hfz21_1
    try clear hfz31_0
    try clear hfz31_1
    obtain ⟨kq, x1001_7, x1002_7, x487001_7, HA, HJ7, BK473, BK486, HI0, HK, HB⟩ := hcut
    cases kq with
    | zero => exact absurd HA.out (by simp [spec_l1Cur_entry.j0])
    | succ kj7 =>
     have H := HA.out
     clear HA
     simp only [spec_l1Cur_entry.j0] at H
     replace H := Option.bind_eq_some_iff.mp H
     obtain ⟨⟨t496, t497, t498⟩, A320, H⟩ := H
     try dsimp only at H
     have A32 := ak A320
     clear A320
     by_cases c33 : t496 = 0
     ·rw [if_pos c33] at H
      have c33b0 : (t496 == 0) = true := beq_iff_eq.mpr c33
      have c33b1 : (t496 != 0) = false := bne_eq_false_iff_eq.mpr c33
      clear c33
      obtain ⟨y499, hy499⟩ : ∃ y_ : List ByteArray, y_ = (([(⟨#[]⟩ : ByteArray), (⟨#[49, 50, 51, 52, 53, 54, 55, 56, 57, 48, 49, 50, 51, 52, 53, 54, 55, 56, 57, 48, 49]⟩ : ByteArray)] : List ByteArray)) := ⟨_, rfl⟩
      replace H : ((spec_l1Cur_of.f s0_0 t497 t498 y499).bind fun bt502 => (some (bt502.1, x487001_7, bt502.2.1, bt502.2.2))) = some (r1, r2, r3, r4) := by first | (rw [hy499]; with_reducible exact H) | (have H2_ := (Option.bind_some _ _).symm.trans H; rw [hy499]; with_reducible exact H2_) | (have H2_ := (Option.bind_some _ _).symm.trans H; with_reducible exact H2_) | with_reducible exact H | (rw [hy499]; exact H) | exact H
      have Ny499 := ak hy499
      clear hy499
      replace H := Option.bind_eq_some_iff.mp H
      obtain ⟨⟨t502, t503, t504⟩, A340, H⟩ := H
      try dsimp only at H
      have A34 := ak A340
      clear A340
      simp only [Option.some.injEq, Prod.mk.injEq] at H
      obtain ⟨rfl, rfl, rfl, rfl⟩ := H
      go_wp2_with (first | (refine gL 47 Try.func47 (some 20) #[.pointer (some ⟨g, 0, none⟩), .int .i64 60] ?_; (with_reducible refine (spec_l1Cur_pick.calls g s0_0 x1001_7 x1002_7 60 t496 t497 t498 w0 _ ?side1 ?side2 A32.out).mono ?_); (case side1 => exact is2 HI0.out NB0_473.out NB0_486.out); (case side2 => exact bl3 HB.out (IsS78.ge HI0.out) GE473.out GE486.out); rintro e w35 ⟨rfl, hi, hb, hk⟩; refine ⟨_, rfl, ?_⟩; replace BK473 := ak (KeepBut.blk hk (g' := gb473) (o := .cells #[.string (⟨#[]⟩ : ByteArray), .string (⟨#[]⟩ : ByteArray)] 45 (0, 0)) (bk BK473.out) NB473_0.out (by simp)); replace BK486 := ak (KeepBut.blk hk (g' := gb486) (o := .cells #[.string t477, .string x487001_7] 45 (0, 0)) (bk BK486.out) NB486_0.out (by simp)); replace HK := ak (KeepBut.trans (kb2 HK.out GW473.out GW486.out) hk (.inl rfl)); replace HB := ak hb; replace HI0 := ak hi; clear hb hk hi) | ((with_reducible refine gate_dst (N := 24) rfl ?_); refine Kd.R_lit Kd.string _ 9 ?hg (N := 24) ?hd (xs := ([(⟨#[]⟩ : ByteArray), (⟨#[49, 50, 51, 52, 53, 54, 55, 56, 57, 48, 49, 50, 51, 52, 53, 54, 55, 56, 57, 48, 49]⟩ : ByteArray)] : List ByteArray)) (inner := [.string (⟨#[]⟩ : ByteArray), .string (⟨#[49, 50, 51, 52, 53, 54, 55, 56, 57, 48, 49, 50, 51, 52, 53, 54, 55, 56, 57, 48, 49]⟩ : ByteArray)]) (ok := fun _ => True) (okp := fun _ => True) ?hr ?hp (fun _ hk => hk) trivial (Below.refl _ _) (Nat.le_refl _) (by simp) ?_; (case hd => rfl); (case hg => rfl); (case hr => first | (go_simp; done) | (go_simp; rfl)); (case hp => exact (Reps.one (show Kd.M Kd.string _ _ _ (⟨#[]⟩ : ByteArray) [.string (⟨#[]⟩ : ByteArray)] from rfl) (Reps.one (show Kd.M Kd.string _ _ _ (⟨#[49, 50, 51, 52, 53, 54, 55, 56, 57, 48, 49, 50, 51, 52, 53, 54, 55, 56, 57, 48, 49]⟩ : ByteArray) [.string (⟨#[49, 50, 51, 52, 53, 54, 55, 56, 57, 48, 49, 50, 51, 52, 53, 54, 55, 56, 57, 48, 49]⟩ : ByteArray)] from rfl) (Reps.none _ _)))); intro v500 w36 ho37 hb hg_ hnew_; clear hg_ hnew_; (first | rw [← Ny499.out] at ho37 | (simp only [Int.reduceToNat] at ho37; rw [← Ny499.out] at ho37)); have HO501 := ak (Kd.R_lower ho37 (keep_size (kb2 HK.out GW473.out GW486.out))); replace BK473 := ak (blk_below (bk BK473.out) hb); replace BK486 := ak (blk_below (bk BK486.out) hb); replace HK := ak (KeepBut.trans (kb2 HK.out GW473.out GW486.out) (KeepBut.of_below hb g none) (.inl rfl)); replace HB := ak (below_step (bl3 HB.out (IsS78.ge HI0.out) GE473.out GE486.out) hb); replace HI0 := ak (IsS78.below (is2 HI0.out NB0_473.out NB0_486.out) hb); clear hb ho37; obtain ⟨Ao38, co38, eo38⟩ := Kd.R_slice HO501.out; subst eo38) | (refine gL 66 Try.func66 (some 25) #[.pointer (some ⟨g, 0, none⟩), .slice Ao38 y499.length co38] ?_; (with_reducible refine (spec_l1Cur_of.calls g s0_0 t497 t498 _ _ y499 t502 t503 t504 w0 _ ?side1 ?side2 ?side3 ?side4 ?side5 A34.out).mono ?_); (case side1 => exact is2 HI0.out NB0_473.out NB0_486.out); (case side2 => exact bl3 HB.out (IsS78.ge HI0.out) GE473.out GE486.out); (case side3 => exact kc (Kd.R_reads' HO501.out).2.2); (case side4 => exact (Kd.R_reads' HO501.out).2.1); (case side5 => exact far_slice (IsS78.own_ne HI0.out HO501.out (by decide))); rintro e w39 ⟨rfl, hi, hb, hk⟩; refine ⟨_, rfl, ?_⟩; replace BK473 := ak (KeepBut.blk hk (g' := gb473) (o := .cells #[.string (⟨#[]⟩ : ByteArray), .string (⟨#[]⟩ : ByteArray)] 45 (0, 0)) (bk BK473.out) NB473_0.out (by simp)); replace BK486 := ak (KeepBut.blk hk (g' := gb486) (o := .cells #[.string t477, .string x487001_7] 45 (0, 0)) (bk BK486.out) NB486_0.out (by simp)); replace HO501 := ak (Kd.R_mono (Kd.R_keep (IsS78.apart (show IsS78 w0 _ g s0_0 t497 t498 from is2 HI0.out NB0_473.out NB0_486.out) (kr HO501.out) (by decide)) hk (fun _ h => h.2)) (fun _ h => h.1)); replace HK := ak (KeepBut.trans (kb2 HK.out GW473.out GW486.out) hk (.inl rfl)); replace HB := ak hb; replace HI0 := ak hi; clear hb hk hi; have hnb40 := NB486_473.out; have hnc40 := NB473_486.out; have hnb41 := NB486_0.out; have hnc41 := NB0_486.out; obtain ⟨hcz42_0, hcz42_1, hfz42_0, hfz42_1⟩ := b2 BK486.out; have hnb43 := NB473_0.out; have hnc43 := NB0_473.out; obtain ⟨hcz44_0, hcz44_1, hfz44_0, hfz44_1⟩ := b2 BK473.out))
      refine bodyPost_ret (results_cell_row rfl _ _ gb473 45 #[.string t502, .string x487001_7] (0, 0) _ rfl (bq BK473.out) Try.underlying45 rfl (by kernel_rfl)) rfl ?_
      exact ⟨by first | rfl | (simp [errW_none, errW_some] <;> rfl) | (simp only [← hji4]; first | rfl | (simp [errW_none, errW_some] <;> rfl)) | (simp [*, errW_none, errW_some] <;> rfl), by repeat (first | (with_reducible first | exact HI0.out | apply IsS78.alloc | apply IsS78.drewN | apply IsS78.drew | apply IsS78.set_1 | apply IsS78.set_2 | refine IsS78.far ?_ NB0_473.out _ | refine IsS78.far ?_ NB0_486.out _) | exact HI0.out), bl3 HB.out (IsS78.ge HI0.out) GE473.out GE486.out, by repeat (first | (with_reducible first | exact HK.out | apply KeepBut.set_ | apply keep_drewN | apply keep_drew | apply keep_alloc | refine keep_far ?_ GW473.out _ | refine keep_far ?_ GW486.out _) | exact HK.out)⟩
     ·rw [if_neg c33] at H
      have c33b0 : (t496 == 0) = false := beq_eq_false_iff_ne.mpr c33
      have c33b1 : (t496 != 0) = true := bne_iff_ne.mpr c33
      by_cases c45 : t496 = 1
      ·rw [if_pos c45] at H
       have c45b0 : (t496 == 1) = true := beq_iff_eq.mpr c45
       have c45b1 : (t496 != 1) = false := bne_eq_false_iff_eq.mpr c45
       clear c45
       replace H := Option.bind_eq_some_iff.mp H
       obtain ⟨⟨t505, t506, t507⟩, A460, H⟩ := H
       try dsimp only at H
       have A46 := ak A460
       clear A460
       obtain ⟨ji47, hji47⟩ : ∃ j_ : Int, (wrap64 (60 + t505)) = j_ := ⟨_, rfl⟩
       replace H : (if 0 ≤ (ji47) then (if (ji47 : Int).toNat ≤ 281474976710656 then (some (t477, strOfNums (List.replicate (ji47 : Int).toNat 0), t506, t507)) else (none)) else (none)) = some (r1, r2, r3, r4) := by first | (rw [hji47] at H; exact H) | (simp only [hji47] at H ⊢; exact H)
       (try rw [hji47] at A32)
       (try rw [hji47] at A46)
       have hji47w : (IntKind.i64.wrap (60 + t505)) = ji47 := (i64_w _).trans hji47
       by_cases c48 : 0 ≤ (ji47)
       ·rw [if_pos c48] at H
        have c48b0 := eq_true c48
        have c48b1 : decide (0 ≤ (ji47)) = true := decide_eq_true c48
        clear c48
        by_cases c49 : (ji47 : Int).toNat ≤ 281474976710656
        ·rw [if_pos c49] at H
         have c49b0 := eq_true c49
         have c49b1 : decide ((ji47 : Int).toNat ≤ 281474976710656) = true := decide_eq_true c49
         clear c49
         obtain ⟨y508, hy508⟩ : ∃ y_ : List Int, y_ = (List.replicate (ji47 : Int).toNat 0) := ⟨_, rfl⟩
         replace H : (some (t477, strOfNums y508, t506, t507)) = some (r1, r2, r3, r4) := by first | (rw [hy508]; with_reducible exact H) | (have H2_ := (Option.bind_some _ _).symm.trans H; rw [hy508]; with_reducible exact H2_) | (have H2_ := (Option.bind_some _ _).symm.trans H; with_reducible exact H2_) | with_reducible exact H | (rw [hy508]; exact H) | exact H
         have Ny508 := ak hy508
         clear hy508
         simp only [Option.some.injEq, Prod.mk.injEq] at H
         obtain ⟨rfl, rfl, rfl, rfl⟩ := H
         go_wp2_with (first | (refine gL 47 Try.func47 (some 20) #[.pointer (some ⟨g, 0, none⟩), .int .i64 60] ?_; (with_reducible refine (spec_l1Cur_pick.calls g s0_0 x1001_7 x1002_7 60 t496 t497 t498 w0 _ ?side1 ?side2 A32.out).mono ?_); (case side1 => exact is2 HI0.out NB0_473.out NB0_486.out); (case side2 => exact bl3 HB.out (IsS78.ge HI0.out) GE473.out GE486.out); rintro e w50 ⟨rfl, hi, hb, hk⟩; refine ⟨_, rfl, ?_⟩; replace BK473 := ak (KeepBut.blk hk (g' := gb473) (o := .cells #[.string (⟨#[]⟩ : ByteArray), .string (⟨#[]⟩ : ByteArray)] 45 (0, 0)) (bk BK473.out) NB473_0.out (by simp)); replace BK486 := ak (KeepBut.blk hk (g' := gb486) (o := .cells #[.string t477, .string x487001_7] 45 (0, 0)) (bk BK486.out) NB486_0.out (by simp)); replace HK := ak (KeepBut.trans (kb2 HK.out GW473.out GW486.out) hk (.inl rfl)); replace HB := ak hb; replace HI0 := ak hi; clear hb hk hi) | (refine gL 47 Try.func47 (some 30) #[.pointer (some ⟨g, 0, none⟩), .int .i64 2] ?_; (with_reducible refine (spec_l1Cur_pick.calls g s0_0 t497 t498 2 t505 t506 t507 w0 _ ?side1 ?side2 A46.out).mono ?_); (case side1 => exact is2 HI0.out NB0_473.out NB0_486.out); (case side2 => exact bl3 HB.out (IsS78.ge HI0.out) GE473.out GE486.out); rintro e w51 ⟨rfl, hi, hb, hk⟩; refine ⟨_, rfl, ?_⟩; replace BK473 := ak (KeepBut.blk hk (g' := gb473) (o := .cells #[.string (⟨#[]⟩ : ByteArray), .string (⟨#[]⟩ : ByteArray)] 45 (0, 0)) (bk BK473.out) NB473_0.out (by simp)); replace BK486 := ak (KeepBut.blk hk (g' := gb486) (o := .cells #[.string t477, .string x487001_7] 45 (0, 0)) (bk BK486.out) NB486_0.out (by simp)); replace HK := ak (KeepBut.trans (kb2 HK.out GW473.out GW486.out) hk (.inl rfl)); replace HB := ak hb; replace HI0 := ak hi; clear hb hk hi) | ((with_reducible refine gate_dst (N := 32) rfl ?_); refine Kd.R_make (Kd.int .u8) _ 5 rfl (N := 32) rfl 35 _ _ rfl ji47 rfl rfl Try.underlying35 (.int .u8 0) 1 info5 rfl (by decide) (by omega) 0 (ok := fun _ => True) (okp := fun _ => True) rfl (fun _ hk => hk) trivial (od) (Nat.le_trans (Nat.mul_le_mul_right _ (od : ji47.toNat ≤ 281474976710656)) (by omega)) (Below.refl _ _) (Nat.le_refl _) ?_; intro v509 w52 ho53 hb hg_ hnew_; clear hg_ hnew_; (first | rw [← Ny508.out] at ho53 | (simp only [Int.reduceToNat] at ho53; rw [← Ny508.out] at ho53)); have HO510 := ak (Kd.R_lower ho53 (keep_size (kb2 HK.out GW473.out GW486.out))); replace BK473 := ak (blk_below (bk BK473.out) hb); replace BK486 := ak (blk_below (bk BK486.out) hb); replace HK := ak (KeepBut.trans (kb2 HK.out GW473.out GW486.out) (KeepBut.of_below hb g none) (.inl rfl)); replace HB := ak (below_step (bl3 HB.out (IsS78.ge HI0.out) GE473.out GE486.out) hb); replace HI0 := ak (IsS78.below (is2 HI0.out NB0_473.out NB0_486.out) hb); clear hb ho53; have hcv54 := own_string (P := Try.prog) Try.underlying35 Try.underlying5 Try.underlying9 (Kd.own_of_R HO510.out); have hnb55 := NB486_473.out; have hnc55 := NB473_486.out; have hnb56 := NB486_0.out; have hnc56 := NB0_486.out; obtain ⟨hcz57_0, hcz57_1, hfz57_0, hfz57_1⟩ := b2 BK486.out; have hnb58 := NB473_0.out; have hnc58 := NB0_473.out; obtain ⟨hcz59_0, hcz59_1, hfz59_0, hfz59_1⟩ := b2 BK473.out))
         refine bodyPost_ret (results_cell_row rfl _ _ gb473 45 #[.string t477, .string (strOfNums y508)] (0, 0) _ rfl (bq BK473.out) Try.underlying45 rfl (by kernel_rfl)) rfl ?_
         exact ⟨by first | rfl | (simp [errW_none, errW_some] <;> rfl) | (simp only [← hji4, ← hji47]; first | rfl | (simp [errW_none, errW_some] <;> rfl)) | (simp [*, errW_none, errW_some] <;> rfl), by repeat (first | (with_reducible first | exact HI0.out | apply IsS78.alloc | apply IsS78.drewN | apply IsS78.drew | apply IsS78.set_1 | apply IsS78.set_2 | refine IsS78.far ?_ NB0_473.out _ | refine IsS78.far ?_ NB0_486.out _) | exact HI0.out), bl3 HB.out (IsS78.ge HI0.out) GE473.out GE486.out, by repeat (first | (with_reducible first | exact HK.out | apply KeepBut.set_ | apply keep_drewN | apply keep_drew | apply keep_alloc | refine keep_far ?_ GW473.out _ | refine keep_far ?_ GW486.out _) | exact HK.out)⟩
        ·rw [if_neg c49] at H
         exact absurd H (by simp)
       ·rw [if_neg c48] at H
        exact absurd H (by simp)
      ·rw [if_neg c45] at H
       have c45b0 : (t496 == 1) = false := beq_eq_false_iff_ne.mpr c45
       have c45b1 : (t496 != 1) = true := bne_iff_ne.mpr c45
       simp only [Option.some.injEq, Prod.mk.injEq] at H
       obtain ⟨rfl, rfl, rfl, rfl⟩ := H
       go_wp2_with (first | (refine gL 47 Try.func47 (some 20) #[.pointer (some ⟨g, 0, none⟩), .int .i64 60] ?_; (with_reducible refine (spec_l1Cur_pick.calls g s0_0 x1001_7 x1002_7 60 t496 t497 t498 w0 _ ?side1 ?side2 A32.out).mono ?_); (case side1 => exact is2 HI0.out NB0_473.out NB0_486.out); (case side2 => exact bl3 HB.out (IsS78.ge HI0.out) GE473.out GE486.out); rintro e w60 ⟨rfl, hi, hb, hk⟩; refine ⟨_, rfl, ?_⟩; replace BK473 := ak (KeepBut.blk hk (g' := gb473) (o := .cells #[.string (⟨#[]⟩ : ByteArray), .string (⟨#[]⟩ : ByteArray)] 45 (0, 0)) (bk BK473.out) NB473_0.out (by simp)); replace BK486 := ak (KeepBut.blk hk (g' := gb486) (o := .cells #[.string t477, .string x487001_7] 45 (0, 0)) (bk BK486.out) NB486_0.out (by simp)); replace HK := ak (KeepBut.trans (kb2 HK.out GW473.out GW486.out) hk (.inl rfl)); replace HB := ak hb; replace HI0 := ak hi; clear hb hk hi; have hnb61 := NB486_473.out; have hnc61 := NB473_486.out; have hnb62 := NB486_0.out; have hnc62 := NB0_486.out; obtain ⟨hcz63_0, hcz63_1, hfz63_0, hfz63_1⟩ := b2 BK486.out; have hnb64 := NB473_0.out; have hnc64 := NB0_473.out; obtain ⟨hcz65_0, hcz65_1, hfz65_0, hfz65_1⟩ := b2 BK473.out))
       refine bodyPost_ret (results_cell_row rfl _ _ gb473 45 #[.string t477, .string x487001_7] (0, 0) _ rfl (bq BK473.out) Try.underlying45 rfl (by kernel_rfl)) rfl ?_
       exact ⟨by first | rfl | (simp [errW_none, errW_some] <;> rfl) | (simp only [← hji4]; first | rfl | (simp [errW_none, errW_some] <;> rfl)) | (simp [*, errW_none, errW_some] <;> rfl), by repeat (first | (with_reducible first | exact HI0.out | apply IsS78.alloc | apply IsS78.drewN | apply IsS78.drew | apply IsS78.set_1 | apply IsS78.set_2 | refine IsS78.far ?_ NB0_473.out _ | refine IsS78.far ?_ NB0_486.out _) | exact HI0.out), bl3 HB.out (IsS78.ge HI0.out) GE473.out GE486.out, by repeat (first | (with_reducible first | exact HK.out | apply KeepBut.set_ | apply keep_drewN | apply keep_drew | apply keep_alloc | refine keep_far ?_ GW473.out _ | refine keep_far ?_ GW486.out _) | exact HK.out)⟩
  ·rw [if_neg c6] at H
   exact absurd H (by simp)
 ·rw [if_neg c5] at H
  exact absurd H (by simp)

end Go.Proofs.Ytfopmaiednikhaa.PFnParts
