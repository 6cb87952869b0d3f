-- written by a program of this session (wip/tool)
import Derived.Test.YtfopmaiednikhaaPFnPartsx0
import Derived.Test.YtfopmaiednikhaaPFnPartsx10
import Derived.Test.YtfopmaiednikhaaPFnPartsx11
import Derived.Test.YtfopmaiednikhaaVOwn0
import Derived.Test.YtfopmaiednikhaaVOwnOpen
import Derived.WalkKit
import Derived.BigCall
import Derived.Lib.SliceRun
import Derived.Deep.RegionLaw
import Derived.Maps.OwnSet
import Derived.Maps.OwnOps
import Derived.Maps.Views
import Derived.Test.YtfopmaiednikhaaVWZeros
import Derived.Test.YtfopmaiednikhaaVWArr
import Derived.Test.YtfopmaiednikhaaVOwnShort
import Derived.Test.YtfopmaiednikhaaOwnSq
namespace Go.Proofs.Ytfopmaiednikhaa.PFnParts
open Go.RowKit Go.Proofs.YtfopmaiednikhaaW.PrintWords Go.Proofs.YtfopmaiednikhaaW.PrintLast Go.Proofs.YtfopmaiednikhaaW.PrintMore Go.Shelf Go.Proofs.YtfopmaiednikhaaOwn
attribute [local go_sem] max2_int min2_int max_two min_two max_three min_three max_four min_four   -- for this text's walks alone
set_option linter.unusedVariables false
set_option linter.unusedSimpArgs false

/-! ### spec_l1Cur_entries: function 48 -/
mutual
def spec_l1Cur_entries.j0 : Nat → List (S45) → Int → List Int → Int → Int → Option ((List (S45)) × Int × Int)
 | 0, _, _, _, _, _ => none
 | k + 1, x3, x4, x1000, x1001, x1002 => spec_l1Cur_entries.l0 k x3 x4 x1000 x1001 x1002
def spec_l1Cur_entries.l0 : Nat → List (S45) → Int → List Int → Int → Int → Option ((List (S45)) × Int × Int)
 | 0, _, _, _, _, _ => none
 | k + 1, x3, x4, x1000, x1001, x1002 => if x4 > 0 then ((spec_l1Cur_entry.f k x1000 x1001 x1002).bind fun bt520 => ((spec_l1Cur_one.f x1000 bt520.2.2.1 bt520.2.2.2 2).bind fun bt525 => (if bt525.1 = true then (if x3.length < 4398046511104 then (spec_l1Cur_entries.l0 k (x3 ++ [(⟨bt520.1, (⟨#[]⟩ : ByteArray)⟩ : S45)]) (wrap64 (x4 - 1)) x1000 bt525.2.1 bt525.2.2) else (none)) else (if x3.length < 4398046511104 then (spec_l1Cur_entries.l0 k (x3 ++ [(⟨bt520.1, bt520.2.1⟩ : S45)]) (wrap64 (x4 - 1)) x1000 bt525.2.1 bt525.2.2) else (none))))) else (some (x3, x1001, x1002))
end
def spec_l1Cur_entries.f (k : Nat) (s0_0 : List Int) (s0_1 : Int) (s0_2 : Int) : Option ((List (S45)) × Int × Int) := (spec_l1Cur_pick.f s0_0 s0_1 s0_2 24).bind fun bt511 => ((spec_l1Cur_one.f s0_0 bt511.2.1 bt511.2.2 30).bind fun bt514 => (if bt514.1 = true then ((spec_l1Cur_pick.f s0_0 bt514.2.1 bt514.2.2 3).bind fun bt517 => (spec_l1Cur_entries.j0 k ([] : List (S45)) (wrap64 (199 + bt517.1)) s0_0 bt517.2.1 bt517.2.2)) else (spec_l1Cur_entries.j0 k ([] : List (S45)) bt511.1 s0_0 bt514.2.1 bt514.2.2)))
theorem spec_l1Cur_entries.mono_l : ∀ k, (∀ y0 y1 y2 y3 y4, LeO (spec_l1Cur_entries.j0 k y0 y1 y2 y3 y4) (spec_l1Cur_entries.j0 (k + 1) y0 y1 y2 y3 y4)) ∧ (∀ y0 y1 y2 y3 y4, LeO (spec_l1Cur_entries.l0 k y0 y1 y2 y3 y4) (spec_l1Cur_entries.l0 (k + 1) y0 y1 y2 y3 y4))
 | 0 => ⟨fun _ _ _ _ _ r h => by simp [spec_l1Cur_entries.j0] at h, fun _ _ _ _ _ r h => by simp [spec_l1Cur_entries.l0] at h⟩
 | k + 1 => by
  obtain ⟨ih0, ih1⟩ := spec_l1Cur_entries.mono_l k
  refine ⟨?_, ?_⟩
  ·intro y0 y1 y2 y3 y4
   unfold spec_l1Cur_entries.j0
   repeat' first
   | (with_reducible exact ih0 _ _ _ _ _)
   | (with_reducible exact ih1 _ _ _ _ _)
   | (with_reducible exact spec_l1Cur_entry.mono _ _ _ _)
   | (with_reducible exact LeO.refl _)
   | (with_reducible exact LeO.none _)
   | (with_reducible refine LeO.ite ?_ ?_)
   | (with_reducible refine LeO.bind ?_ (fun _ => ?_))
   | exact ih0 _ _ _ _ _
   | exact ih1 _ _ _ _ _
   | exact spec_l1Cur_entry.mono _ _ _ _
   | exact LeO.none _
   | refine LeO.ite ?_ ?_
   | refine LeO.bind ?_ (fun _ => ?_)
  ·intro y0 y1 y2 y3 y4
   unfold spec_l1Cur_entries.l0
   repeat' first
   | (with_reducible exact ih0 _ _ _ _ _)
   | (with_reducible exact ih1 _ _ _ _ _)
   | (with_reducible exact spec_l1Cur_entry.mono _ _ _ _)
   | (with_reducible exact LeO.refl _)
   | (with_reducible exact LeO.none _)
   | (with_reducible refine LeO.ite ?_ ?_)
   | (with_reducible refine LeO.bind ?_ (fun _ => ?_))
   | exact ih0 _ _ _ _ _
   | exact ih1 _ _ _ _ _
   | exact spec_l1Cur_entry.mono _ _ _ _
   | exact LeO.none _
   | refine LeO.ite ?_ ?_
   | refine LeO.bind ?_ (fun _ => ?_)
theorem spec_l1Cur_entries.mono : ∀ a0 a1 a2 k, LeO (spec_l1Cur_entries.f k a0 a1 a2) (spec_l1Cur_entries.f (k + 1) a0 a1 a2) := by
 intro a0 a1 a2 k
 obtain ⟨ih0, ih1⟩ := spec_l1Cur_entries.mono_l k
 unfold spec_l1Cur_entries.f
 repeat' first
   | (with_reducible exact ih0 _ _ _ _ _)
   | (with_reducible exact ih1 _ _ _ _ _)
   | (with_reducible exact spec_l1Cur_entry.mono _ _ _ _)
   | (with_reducible exact LeO.refl _)
   | (with_reducible exact LeO.none _)
   | (with_reducible refine LeO.ite ?_ ?_)
   | (with_reducible refine LeO.bind ?_ (fun _ => ?_))
   | exact ih0 _ _ _ _ _
   | exact ih1 _ _ _ _ _
   | exact spec_l1Cur_entry.mono _ _ _ _
   | exact LeO.none _
   | refine LeO.ite ?_ ?_
   | refine LeO.bind ?_ (fun _ => ?_)
set_option maxHeartbeats 8000000 in
set_option maxRecDepth 100000 in
theorem spec_l1Cur_entries.calls (k : Nat) (g : Nat) (s0_0 : List Int) (s0_1 : Int) (s0_2 : Int) (r1 : List (S45)) (r2 : Int) (r3 : Int) (w0 w : World) (hI : IsS78 w0 w g s0_0 s0_1 s0_2) (hB : Below w0.heap.size w0 w) (h : spec_l1Cur_entries.f k s0_0 s0_1 s0_2 = some (r1, r2, r3)) :
  Calls Try.prog 48 #[.pointer (some ⟨g, 0, none⟩)] w fun e w' => ∃ v0_ : Value, e = .returned (v0_) ∧ Kd.R k45 45 w' w.heap.size (fun _ => True) v0_ r1 ∧ IsS78 w0 w' g s0_0 r2 r3 ∧ Below w0.heap.size w0 w' ∧ KeepBut w w' g none := by
 have hu45 := Try.underlying45
 have HI0 := ak hI
 have HK := ak (KeepBut.refl w g none)
 have HL := ak hB.size
 clear hI
 have HW0 := ak hB.size
 have HB := ak hB
 clear hB
 have H : ((spec_l1Cur_pick.f s0_0 s0_1 s0_2 24).bind fun bt511 => ((spec_l1Cur_one.f s0_0 bt511.2.1 bt511.2.2 30).bind fun bt514 => (if bt514.1 = true then ((spec_l1Cur_pick.f s0_0 bt514.2.1 bt514.2.2 3).bind fun bt517 => (spec_l1Cur_entries.j0 k ([] : List (S45)) (wrap64 (199 + bt517.1)) s0_0 bt517.2.1 bt517.2.2)) else (spec_l1Cur_entries.j0 k ([] : List (S45)) bt511.1 s0_0 bt514.2.1 bt514.2.2)))) = some (r1, r2, r3) := h
 clear h
 replace H := Option.bind_eq_some_iff.mp H
 obtain ⟨⟨t511, t512, t513⟩, A20, H⟩ := H
 try dsimp only at H
 have A2 := ak A20
 clear A20
 replace H := Option.bind_eq_some_iff.mp H
 obtain ⟨⟨t514, t515, t516⟩, A30, H⟩ := H
 try dsimp only at H
 have A3 := ak A30
 clear A30
 have HC4 := ak H
 clear H
 go_enter Try.func48, Try.ntmps48
 go_upto_if 9 with (first | (refine gL 47 Try.func47 (some 7) #[.pointer (some ⟨g, 0, none⟩), .int .i64 24] ?_; (with_reducible refine (spec_l1Cur_pick.calls g s0_0 s0_1 s0_2 24 t511 t512 t513 w0 _ ?side1 ?side2 A2.out).mono ?_); (case side1 => exact is HI0.out); (case side2 => exact bl1 HB.out (IsS78.ge HI0.out)); rintro e w5 ⟨rfl, hi, hb, hk⟩; refine ⟨_, rfl, ?_⟩; replace HK := ak (KeepBut.trans (kb HK.out) hk (.inl rfl)); replace HB := ak hb; replace HI0 := ak hi; clear hb hk hi) | (refine gL 73 Try.func73 (some 9) #[.pointer (some ⟨g, 0, none⟩), .int .i64 30] ?_; (with_reducible refine (spec_l1Cur_one.calls g s0_0 t512 t513 30 t514 t515 t516 w0 _ ?side1 ?side2 A3.out).mono ?_); (case side1 => exact is HI0.out); (case side2 => exact bl1 HB.out (IsS78.ge HI0.out)); rintro e w6 ⟨rfl, hi, hb, hk⟩; refine ⟨_, rfl, ?_⟩; replace HK := ak (KeepBut.trans (kb HK.out) hk (.inl rfl)); replace HB := ak hb; replace HI0 := ak hi; clear hb hk hi))
 (try simp only [Act.put, List.setIfInBounds_toArray, List.set_cons_zero, List.set_cons_succ])
 go_cut [4] (fun v4 wc => ∃ (kq : Nat) (x4_3 : Int) (x1001_3 : Int) (x1002_3 : Int), v4 = .int .i64 x4_3 ∧ Aside0 (spec_l1Cur_entries.j0 kq ([] : List (S45)) x4_3 s0_0 x1001_3 x1002_3 = some (r1, r2, r3)) ∧ Aside0 (kq ≤ k) ∧ Aside0 (Kd.R k45 45 wc w.heap.size (fun _ => True) (.slice none 0 0) ([] : List (S45))) ∧ Aside0 (IsS78 w0 wc g s0_0 x1001_3 x1002_3) ∧ Aside0 (KeepBut w wc g none) ∧ Aside0 (Below w0.heap.size w0 wc))
 case first =>
  have H := HC4.out
  clear HC4
  by_cases c7 : t514 = true
  ·subst c7
   have H1 : ((spec_l1Cur_pick.f s0_0 t515 t516 3).bind fun bt517 => (spec_l1Cur_entries.j0 k ([] : List (S45)) (wrap64 (199 + bt517.1)) s0_0 bt517.2.1 bt517.2.2)) = some (r1, r2, r3) := by rw [if_pos rfl] at H; exact H
   clear H
   have H := H1
   clear H1
   replace H := Option.bind_eq_some_iff.mp H
   obtain ⟨⟨t517, t518, t519⟩, A80, H⟩ := H
   try dsimp only at H
   have A8 := ak A80
   clear A80
   have H' := ak H
   clear H
   go_wp2_with (first | (refine gL 47 Try.func47 (some 11) #[.pointer (some ⟨g, 0, none⟩), .int .i64 3] ?_; (with_reducible refine (spec_l1Cur_pick.calls g s0_0 t515 t516 3 t517 t518 t519 w0 _ ?side1 ?side2 A8.out).mono ?_); (case side1 => exact is HI0.out); (case side2 => exact bl1 HB.out (IsS78.ge HI0.out)); rintro e w9 ⟨rfl, hi, hb, hk⟩; refine ⟨_, rfl, ?_⟩; replace HK := ak (KeepBut.trans (kb HK.out) hk (.inl rfl)); replace HB := ak hb; replace HI0 := ak hi; clear hb hk hi))
   go_meet
   case rel => exact ⟨_, (wrap64 (199 + t517)), (t518), (t519), (by first | rfl | (simp; done) | (simp [*]; done)), H', ⟨by first | omega | exact Nat.le_refl _⟩, ⟨by first | exact Kd.R_nil _ _ _ _ _ | exact Kd.N_nil _ _ _ _ _ | exact Kd.V_nil _ _ _ _ _ | exact Kd.Q_nil _ _ _ _ _ | exact Kd.S_nil _ _ _ _ _⟩, ⟨by repeat (first | (with_reducible first | exact HI0.out | apply IsS78.alloc | apply IsS78.drewN | apply IsS78.drew | apply IsS78.set_1 | apply IsS78.set_2) | exact HI0.out)⟩, ⟨kb HK.out⟩, ⟨bl1 HB.out (IsS78.ge HI0.out)⟩⟩
  ·replace c7 := Bool.eq_false_iff.mpr c7
   subst c7
   have H1 : (spec_l1Cur_entries.j0 k ([] : List (S45)) t511 s0_0 t515 t516) = some (r1, r2, r3) := by rw [if_neg (show ¬ (false = true) by decide)] at H; exact H
   clear H
   have H := H1
   clear H1
   have H' := ak H
   clear H
   go_wp2
   go_meet
   case rel => exact ⟨_, (t511), (t515), (t516), (by first | rfl | (simp; done) | (simp [*]; done)), H', ⟨by first | omega | exact Nat.le_refl _⟩, ⟨by first | exact Kd.R_nil _ _ _ _ _ | exact Kd.N_nil _ _ _ _ _ | exact Kd.V_nil _ _ _ _ _ | exact Kd.Q_nil _ _ _ _ _ | exact Kd.S_nil _ _ _ _ _⟩, ⟨by repeat (first | (with_reducible first | exact HI0.out | apply IsS78.alloc | apply IsS78.drewN | apply IsS78.drew | apply IsS78.set_1 | apply IsS78.set_2) | exact HI0.out)⟩, ⟨kb HK.out⟩, ⟨bl1 HB.out (IsS78.ge HI0.out)⟩⟩
 case rest =>
  clear HC4
  try clear p2
  try clear c4
  try clear p6
  try clear c7
  obtain ⟨kq, x4_3, x1001_3, x1002_3, rfl, HA, HJ3, HO_3, HI0, HK, HB⟩ := hcut
  cases kq with
  | zero => exact absurd HA.out (by simp [spec_l1Cur_entries.j0])
  | succ kj3 =>
   have H := HA.out
   clear HA
   simp only [spec_l1Cur_entries.j0] at H
   have H' := ak H
   clear H
   go_wp2
   go_loopg [3, 4] kj3 (fun kq v3 v4 w' => ∃ (x3_2 : List (S45)) (x4_2 : Int) (x1001_2 : Int) (x1002_2 : Int), v4 = .int .i64 x4_2 ∧ Aside0 (spec_l1Cur_entries.l0 kq x3_2 x4_2 s0_0 x1001_2 x1002_2 = some (r1, r2, r3)) ∧ Aside0 (kq ≤ kj3) ∧ Aside0 (Kd.R k45 45 w' w.heap.size (fun _ => True) v3 x3_2) ∧ Aside0 (IsS78 w0 w' g s0_0 x1001_2 x1002_2) ∧ Aside0 (KeepBut w w' g none) ∧ Aside0 (Below w0.heap.size w0 w'))
   case atStart => exact ⟨(([] : List (S45))), (x4_3), (x1001_3), (x1002_3), (by first | rfl | (simp; done) | (simp [*]; done)), H', ⟨Nat.le_refl _⟩, ⟨kr HO_3.out⟩, ⟨by repeat (first | (with_reducible first | exact HI0.out | apply IsS78.alloc | apply IsS78.drewN | apply IsS78.drew | apply IsS78.set_1 | apply IsS78.set_2) | exact HI0.out)⟩, ⟨kb HK.out⟩, ⟨bl1 HB.out (IsS78.ge HI0.out)⟩⟩
   case round =>
    clear H'
    try clear p2
    try clear c4
    try clear p6
    try clear c7
    try clear p2
    try clear p6
    obtain ⟨x3_2, x4_2, x1001_2, x1002_2, rfl, HA, HK2, HO_3, HI0, HK, HB⟩ := hrel
    cases gk with
    | zero => exact absurd HA.out (by simp [spec_l1Cur_entries.l0])
    | succ k2 =>
     have H := HA.out
     clear HA
     simp only [spec_l1Cur_entries.l0] at H
     by_cases c10 : x4_2 > 0
     ·rw [if_pos c10] at H
      have c10b0 : decide (0 < x4_2) = true := decide_eq_true c10
      clear c10
      replace H := Option.bind_eq_some_iff.mp H
      obtain ⟨⟨t520, t521, t522, t523⟩, A110, H⟩ := H
      try dsimp only at H
      have A11 := ak A110
      clear A110
      replace H := Option.bind_eq_some_iff.mp H
      obtain ⟨⟨t525, t526, t527⟩, A120, H⟩ := H
      try dsimp only at H
      have A12 := ak A120
      clear A120
      by_cases c13 : t525 = true
      ·subst c13
       have H1 : (if x3_2.length < 4398046511104 then (spec_l1Cur_entries.l0 k2 (x3_2 ++ [(⟨t520, (⟨#[]⟩ : ByteArray)⟩ : S45)]) (wrap64 (x4_2 - 1)) s0_0 t526 t527) else (none)) = some (r1, r2, r3) := by rw [if_pos rfl] at H; exact H
       clear H
       have H := H1
       clear H1
       by_cases c14 : x3_2.length < 4398046511104
       ·rw [if_pos c14] at H
        have LMc14 := ak c14
        clear c14
        obtain ⟨y528, hy528⟩ : ∃ y_ : List (S45), y_ = (x3_2 ++ [(⟨t520, (⟨#[]⟩ : ByteArray)⟩ : S45)]) := ⟨_, rfl⟩
        replace H : (spec_l1Cur_entries.l0 k2 y528 (wrap64 (x4_2 - 1)) s0_0 t526 t527) = some (r1, r2, r3) := by first | (rw [hy528]; with_reducible exact H) | (have H2_ := (Option.bind_some _ _).symm.trans H; rw [hy528]; with_reducible exact H2_) | (have H2_ := (Option.bind_some _ _).symm.trans H; with_reducible exact H2_) | with_reducible exact H | (rw [hy528]; exact H) | exact H
        have Ny528 := ak hy528
        clear hy528
        have H' := ak H
        clear H
        go_wp2_with (first | (refine gL 64 Try.func64 (some 18) #[.pointer (some ⟨g, 0, none⟩)] ?_; (with_reducible refine (spec_l1Cur_entry.calls k2 g s0_0 x1001_2 x1002_2 t520 t521 t522 t523 w0 _ ?side1 ?side2 A11.out).mono ?_); (case side1 => exact is HI0.out); (case side2 => exact bl1 HB.out (IsS78.ge HI0.out)); rintro e w15 ⟨rfl, hi, hb, hk⟩; refine ⟨_, rfl, ?_⟩; replace HO_3 := ak (Kd.R_mono (Kd.R_keep (IsS78.apart (show IsS78 w0 _ g s0_0 x1001_2 x1002_2 from is HI0.out) (kr HO_3.out) (by decide)) hk (fun _ h => h.2)) (fun _ h => h.1)); replace HK := ak (KeepBut.trans (kb HK.out) hk (.inl rfl)); replace HB := ak hb; replace HI0 := ak hi; clear hb hk hi) | (refine bE 5 #[.string (⟨#[]⟩ : ByteArray), .string (⟨#[]⟩ : ByteArray)] 45 ?_; intro gb524 hg w16 hbox hb; replace HO_3 := ak (Kd.R_below (Kd.R_elderB (kr HO_3.out) gb524 (Nat.le_of_eq hg.symm)) hb); replace HB := ak (below_step (bl1 HB.out (IsS78.ge HI0.out)) hb); have BK524 := ak hbox; have GW524 := ak (gb hg (kb HK.out)); have GE524 := ak ((Nat.le_trans HW0.out (gb hg (kb HK.out)) : w0.heap.size ≤ gb524)); replace HK := ak (KeepBut.trans (kb HK.out) (KeepBut.of_below hb g none) (.inl rfl)); have NB0_524 := ak ((by rw [hg]; exact Nat.ne_of_lt (IsS78.lt (show IsS78 w0 _ g s0_0 t522 t523 from is HI0.out)) : g ≠ gb524)); have NB524_0 := ak ((by rw [hg]; exact Nat.ne_of_gt (IsS78.lt (show IsS78 w0 _ g s0_0 t522 t523 from is HI0.out)) : gb524 ≠ g)); replace HI0 := ak (IsS78.below (is HI0.out) hb); clear hb hbox hg; have hnb17 := NB524_0.out; have hnc17 := NB0_524.out; obtain ⟨hcz18_0, hcz18_1, hfz18_0, hfz18_1⟩ := b2 BK524.out) | (refine gL 73 Try.func73 (some 20) #[.pointer (some ⟨g, 0, none⟩), .int .i64 2] ?_; (with_reducible refine (spec_l1Cur_one.calls g s0_0 t522 t523 2 true t526 t527 w0 _ ?side1 ?side2 A12.out).mono ?_); (case side1 => exact is1 HI0.out NB0_524.out); (case side2 => exact bl2 HB.out (IsS78.ge HI0.out) GE524.out); rintro e w19 ⟨rfl, hi, hb, hk⟩; refine ⟨_, rfl, ?_⟩; replace HO_3 := ak (Kd.R_mono (Kd.R_keep (IsS78.apart (show IsS78 w0 _ g s0_0 t522 t523 from is1 HI0.out NB0_524.out) (by (with_reducible repeat (first | apply Kd.R_alloc | apply Kd.R_drewN | apply Kd.R_drew)); exact (Kd.R_mono (Kd.R_far (p := ⟨gb524, 1, none⟩) (Kd.R_far (p := ⟨gb524, 0, none⟩) (Kd.R_mono HO_3.out (fun k_ hk => (⟨hk, hk.2⟩ : _ ∧ k_ ≠ gb524))) (fun _ hk => hk.2) (.string t520)) (fun _ hk => hk.2) (.string t521)) (fun _ h_ => h_.1))) (by decide)) hk (fun _ h => h.2)) (fun _ h => h.1)); replace BK524 := ak (KeepBut.blk hk (g' := gb524) (o := .cells #[.string t520, .string t521] 45 (0, 0)) (bq BK524.out) NB524_0.out (by simp)); replace HK := ak (KeepBut.trans (kb1 HK.out GW524.out) hk (.inl rfl)); replace HB := ak hb; replace HI0 := ak hi; clear hb hk hi; obtain ⟨hcz20_0, hcz20_1, hfz20_0, hfz20_1⟩ := b2 BK524.out) | ((with_reducible refine gate_builtin (b := .append) (xs := #[.tmp 22, .tmp 24]) rfl ?_); at_builtin; refine Kd.R_append k45 w.heap.size rfl (.tmp 22) (.tmp 24) 26 45 (.agg #[(.string ⟨#[]⟩), (.string ⟨#[]⟩)]) 32 rfl Try.underlying26 info45 rfl (by decide) (by omega) u3 x3_2 (⟨t520, (⟨#[]⟩ : ByteArray)⟩ : S45) [.string t520, .string (⟨#[]⟩ : ByteArray)] (fun k_ => k_ ≠ gb524) (fun _ => False) rfl (by first | (go_simp; done) | (go_simp; rfl)) ?aP (fun _ hk => hk.elim) ?aF ?aO (Below.refl _ _) ?aS ?aL ?_; (case aP => exact k45_mkM _ _ _ (⟨t520, (⟨#[]⟩ : ByteArray)⟩ : S45)); (case aF => exact (fun k_ hk => Kd.freshB (g := gb524) (o := .cells #[.string t520, .string (⟨#[]⟩ : ByteArray)] 45 (0, 0)) (bq BK524.out) k_ hk)); (case aO => exact (by (with_reducible repeat (first | apply Kd.R_alloc | apply Kd.R_drewN | apply Kd.R_drew)); exact Kd.R_mono (Kd.R_far (p := ⟨gb524, 1, none⟩) (Kd.R_mono HO_3.out (fun k_ hk => (⟨hk, hk.2⟩ : _ ∧ k_ ≠ gb524))) (fun _ hk => hk.2) (.string (⟨#[]⟩ : ByteArray))) (fun _ hk => hk.1.2))); (case aS => exact (keep_size (kb1 HK.out GW524.out))); (case aL => have := LMc14.out; omega); intro v529 w21 ho hb hg hat; rw [← Ny528.out] at ho; replace BK524 := ak (blk_grown (g := gb524) (o := .cells #[.string t520, .string (⟨#[]⟩ : ByteArray)] 45 (0, 0)) (bq BK524.out) hg (Kd.R_away HO_3.out (fun _ hk => hk.2))); replace HB := ak (below_weaken (bl2 HB.out (IsS78.ge HI0.out) GE524.out) HL.out hb); replace HI0 := ak (IsS78.grown (w0 := w0) (f0 := s0_0) (f1 := t526) (f2 := t527) (is1 HI0.out NB0_524.out) hg (IsS78.own_ne HI0.out HO_3.out (by decide))); replace HK := ak (KeepBut.trans (kb1 HK.out GW524.out) (KeepBut.of_grown hg g) (Kd.R_base2 HO_3.out)); have HO530 := ak ho; clear HO_3; clear ho hb hg hat))
        go_roundg k2
        case measure => have := HJ3.out; have := HK2.out; omega
        case rel => exact ⟨(y528), (wrap64 (x4_2 - 1)), (t526), (t527), (by first | rfl | (simp; done) | (simp [*]; done)), H', ⟨by have := HJ3.out; have := HK2.out; omega⟩, ⟨by (with_reducible repeat (first | apply Kd.R_alloc | apply Kd.R_drewN | apply Kd.R_drew)); exact Kd.R_mono HO530.out (fun _ hk => trivial)⟩, ⟨by repeat (first | (with_reducible first | exact HI0.out | apply IsS78.alloc | apply IsS78.drewN | apply IsS78.drew | apply IsS78.set_1 | apply IsS78.set_2 | refine IsS78.far ?_ NB0_524.out _) | exact HI0.out)⟩, ⟨by repeat (first | (with_reducible first | exact HK.out | apply KeepBut.set_ | apply keep_drewN | apply keep_drew | apply keep_alloc | refine keep_far ?_ GW524.out _) | exact HK.out)⟩, ⟨bl2 HB.out (IsS78.ge HI0.out) GE524.out⟩⟩
       ·rw [if_neg c14] at H
        exact absurd H (by simp)
      ·replace c13 := Bool.eq_false_iff.mpr c13
       subst c13
       have H1 : (if x3_2.length < 4398046511104 then (spec_l1Cur_entries.l0 k2 (x3_2 ++ [(⟨t520, t521⟩ : S45)]) (wrap64 (x4_2 - 1)) s0_0 t526 t527) else (none)) = some (r1, r2, r3) := by rw [if_neg (show ¬ (false = true) by decide)] at H; exact H
       clear H
       have H := H1
       clear H1
       by_cases c22 : x3_2.length < 4398046511104
       ·rw [if_pos c22] at H
        have LMc22 := ak c22
        clear c22
        obtain ⟨y531, hy531⟩ : ∃ y_ : List (S45), y_ = (x3_2 ++ [(⟨t520, t521⟩ : S45)]) := ⟨_, rfl⟩
        replace H : (spec_l1Cur_entries.l0 k2 y531 (wrap64 (x4_2 - 1)) s0_0 t526 t527) = some (r1, r2, r3) := by first | (rw [hy531]; with_reducible exact H) | (have H2_ := (Option.bind_some _ _).symm.trans H; rw [hy531]; with_reducible exact H2_) | (have H2_ := (Option.bind_some _ _).symm.trans H; with_reducible exact H2_) | with_reducible exact H | (rw [hy531]; exact H) | exact H
        have Ny531 := ak hy531
        clear hy531
        have H' := ak H
        clear H
        go_wp2_with (first | (refine gL 64 Try.func64 (some 18) #[.pointer (some ⟨g, 0, none⟩)] ?_; (with_reducible refine (spec_l1Cur_entry.calls k2 g s0_0 x1001_2 x1002_2 t520 t521 t522 t523 w0 _ ?side1 ?side2 A11.out).mono ?_); (case side1 => exact is HI0.out); (case side2 => exact bl1 HB.out (IsS78.ge HI0.out)); rintro e w23 ⟨rfl, hi, hb, hk⟩; refine ⟨_, rfl, ?_⟩; replace HO_3 := ak (Kd.R_mono (Kd.R_keep (IsS78.apart (show IsS78 w0 _ g s0_0 x1001_2 x1002_2 from is HI0.out) (kr HO_3.out) (by decide)) hk (fun _ h => h.2)) (fun _ h => h.1)); replace HK := ak (KeepBut.trans (kb HK.out) hk (.inl rfl)); replace HB := ak hb; replace HI0 := ak hi; clear hb hk hi) | (refine bE 5 #[.string (⟨#[]⟩ : ByteArray), .string (⟨#[]⟩ : ByteArray)] 45 ?_; intro gb524 hg w24 hbox hb; replace HO_3 := ak (Kd.R_below (Kd.R_elderB (kr HO_3.out) gb524 (Nat.le_of_eq hg.symm)) hb); replace HB := ak (below_step (bl1 HB.out (IsS78.ge HI0.out)) hb); have BK524 := ak hbox; have GW524 := ak (gb hg (kb HK.out)); have GE524 := ak ((Nat.le_trans HW0.out (gb hg (kb HK.out)) : w0.heap.size ≤ gb524)); replace HK := ak (KeepBut.trans (kb HK.out) (KeepBut.of_below hb g none) (.inl rfl)); have NB0_524 := ak ((by rw [hg]; exact Nat.ne_of_lt (IsS78.lt (show IsS78 w0 _ g s0_0 t522 t523 from is HI0.out)) : g ≠ gb524)); have NB524_0 := ak ((by rw [hg]; exact Nat.ne_of_gt (IsS78.lt (show IsS78 w0 _ g s0_0 t522 t523 from is HI0.out)) : gb524 ≠ g)); replace HI0 := ak (IsS78.below (is HI0.out) hb); clear hb hbox hg; have hnb25 := NB524_0.out; have hnc25 := NB0_524.out; obtain ⟨hcz26_0, hcz26_1, hfz26_0, hfz26_1⟩ := b2 BK524.out) | (refine gL 73 Try.func73 (some 20) #[.pointer (some ⟨g, 0, none⟩), .int .i64 2] ?_; (with_reducible refine (spec_l1Cur_one.calls g s0_0 t522 t523 2 false t526 t527 w0 _ ?side1 ?side2 A12.out).mono ?_); (case side1 => exact is1 HI0.out NB0_524.out); (case side2 => exact bl2 HB.out (IsS78.ge HI0.out) GE524.out); rintro e w27 ⟨rfl, hi, hb, hk⟩; refine ⟨_, rfl, ?_⟩; replace HO_3 := ak (Kd.R_mono (Kd.R_keep (IsS78.apart (show IsS78 w0 _ g s0_0 t522 t523 from is1 HI0.out NB0_524.out) (by (with_reducible repeat (first | apply Kd.R_alloc | apply Kd.R_drewN | apply Kd.R_drew)); exact (Kd.R_mono (Kd.R_far (p := ⟨gb524, 1, none⟩) (Kd.R_far (p := ⟨gb524, 0, none⟩) (Kd.R_mono HO_3.out (fun k_ hk => (⟨hk, hk.2⟩ : _ ∧ k_ ≠ gb524))) (fun _ hk => hk.2) (.string t520)) (fun _ hk => hk.2) (.string t521)) (fun _ h_ => h_.1))) (by decide)) hk (fun _ h => h.2)) (fun _ h => h.1)); replace BK524 := ak (KeepBut.blk hk (g' := gb524) (o := .cells #[.string t520, .string t521] 45 (0, 0)) (bq BK524.out) NB524_0.out (by simp)); replace HK := ak (KeepBut.trans (kb1 HK.out GW524.out) hk (.inl rfl)); replace HB := ak hb; replace HI0 := ak hi; clear hb hk hi; obtain ⟨hcz28_0, hcz28_1, hfz28_0, hfz28_1⟩ := b2 BK524.out) | ((with_reducible refine gate_builtin (b := .append) (xs := #[.tmp 22, .tmp 24]) rfl ?_); at_builtin; refine Kd.R_append k45 w.heap.size rfl (.tmp 22) (.tmp 24) 26 45 (.agg #[(.string ⟨#[]⟩), (.string ⟨#[]⟩)]) 32 rfl Try.underlying26 info45 rfl (by decide) (by omega) u3 x3_2 (⟨t520, t521⟩ : S45) [.string t520, .string t521] (fun k_ => k_ ≠ gb524) (fun _ => False) rfl rfl ?aP (fun _ hk => hk.elim) ?aF ?aO (Below.refl _ _) ?aS ?aL ?_; (case aP => exact k45_mkM _ _ _ (⟨t520, t521⟩ : S45)); (case aF => exact (fun k_ hk => Kd.freshB (bk BK524.out) k_ hk)); (case aO => exact (by (with_reducible repeat (first | apply Kd.R_alloc | apply Kd.R_drewN | apply Kd.R_drew)); exact Kd.R_mono HO_3.out (fun _ hk => hk.2))); (case aS => exact (keep_size (kb1 HK.out GW524.out))); (case aL => have := LMc22.out; omega); intro v532 w29 ho hb hg hat; rw [← Ny531.out] at ho; replace BK524 := ak (blk_grown (bk BK524.out) hg (Kd.R_away HO_3.out (fun _ hk => hk.2))); replace HB := ak (below_weaken (bl2 HB.out (IsS78.ge HI0.out) GE524.out) HL.out hb); replace HI0 := ak (IsS78.grown (w0 := w0) (f0 := s0_0) (f1 := t526) (f2 := t527) (is1 HI0.out NB0_524.out) hg (IsS78.own_ne HI0.out HO_3.out (by decide))); replace HK := ak (KeepBut.trans (kb1 HK.out GW524.out) (KeepBut.of_grown hg g) (Kd.R_base2 HO_3.out)); have HO533 := ak ho; clear HO_3; clear ho hb hg hat))
        go_roundg k2
        case measure => have := HJ3.out; have := HK2.out; omega
        case rel => exact ⟨(y531), (wrap64 (x4_2 - 1)), (t526), (t527), (by first | rfl | (simp; done) | (simp [*]; done)), H', ⟨by have := HJ3.out; have := HK2.out; omega⟩, ⟨by (with_reducible repeat (first | apply Kd.R_alloc | apply Kd.R_drewN | apply Kd.R_drew)); exact Kd.R_mono HO533.out (fun _ hk => trivial)⟩, ⟨by repeat (first | (with_reducible first | exact HI0.out | apply IsS78.alloc | apply IsS78.drewN | apply IsS78.drew | apply IsS78.set_1 | apply IsS78.set_2 | refine IsS78.far ?_ NB0_524.out _) | exact HI0.out)⟩, ⟨by repeat (first | (with_reducible first | exact HK.out | apply KeepBut.set_ | apply keep_drewN | apply keep_drew | apply keep_alloc | refine keep_far ?_ GW524.out _) | exact HK.out)⟩, ⟨bl2 HB.out (IsS78.ge HI0.out) GE524.out⟩⟩
       ·rw [if_neg c22] at H
        exact absurd H (by simp)
     ·rw [if_neg c10] at H
      have c10b0 : decide (0 < x4_2) = false := decide_eq_false c10
      clear c10
      simp only [Option.some.injEq, Prod.mk.injEq] at H
      obtain ⟨rfl, rfl, rfl⟩ := H
      go_wp2
      go_ret
      exact ⟨_, by first | rfl | (simp [errW_none, errW_some] <;> rfl) | (simp [*, errW_none, errW_some] <;> rfl), kr HO_3.out, by repeat (first | (with_reducible first | exact HI0.out | apply IsS78.alloc | apply IsS78.drewN | apply IsS78.drew | apply IsS78.set_1 | apply IsS78.set_2) | exact HI0.out), bl1 HB.out (IsS78.ge HI0.out), kb HK.out⟩

/-! ### spec_l1Cur_among: function 84 -/
def spec_l1Cur_among.f (s0_0 : List Int) (s0_1 : Int) (s0_2 : Int) (l1 : List Int) : Option (Int × Int × Int) := (spec_l1Cur_pick.f s0_0 s0_1 s0_2 (l1.length : Int)).bind fun bt534 => (if 0 ≤ bt534.1 then (if bt534.1 < (l1.length : Int) then (some (rd l1 bt534.1, bt534.2.1, bt534.2.2)) else (none)) else (none))
set_option maxHeartbeats 8000000 in
set_option maxRecDepth 100000 in
theorem spec_l1Cur_among.calls (g : Nat) (s0_0 : List Int) (s0_1 : Int) (s0_2 : Int) (A1 : Option Addr) (c1 : Nat) (l1 : List Int) (r1 : Int) (r2 : Int) (r3 : Int) (w0 w : World) (hI : IsS78 w0 w g s0_0 s0_1 s0_2) (hB : Below w0.heap.size w0 w) (hr1 : Kd.C (Kd.int .i64) w A1 l1.length l1) (hc1 : l1.length ≤ c1) (hf1 : ∀ ad, A1 = some ad → 0 < l1.length → ad.block ≠ g) (h : spec_l1Cur_among.f s0_0 s0_1 s0_2 l1 = some (r1, r2, r3)) :
  Calls Try.prog 84 #[.pointer (some ⟨g, 0, none⟩), .slice A1 l1.length c1] w fun e w' => e = .returned (.int .i64 r1) ∧ IsS78 w0 w' g s0_0 r2 r3 ∧ Below w0.heap.size w0 w' ∧ KeepBut w w' g none := by
 have HR1 := ak hr1
 have HC1 := ak hc1
 clear hr1 hc1
 have HI0 := ak hI
 have HK := ak (KeepBut.refl w g none)
 have HL := ak hB.size
 clear hI
 have HW0 := ak hB.size
 have HB := ak hB
 clear hB
 have H : ((spec_l1Cur_pick.f s0_0 s0_1 s0_2 (l1.length : Int)).bind fun bt534 => (if 0 ≤ bt534.1 then (if bt534.1 < (l1.length : Int) then (some (rd l1 bt534.1, bt534.2.1, bt534.2.2)) else (none)) else (none))) = some (r1, r2, r3) := h
 clear h
 replace H := Option.bind_eq_some_iff.mp H
 obtain ⟨⟨t534, t535, t536⟩, A30, H⟩ := H
 try dsimp only at H
 have A3 := ak A30
 clear A30
 by_cases c4 : 0 ≤ t534
 ·rw [if_pos c4] at H
  have c4b0 : decide (0 ≤ t534) = true := decide_eq_true c4
  clear c4
  by_cases c5 : t534 < (l1.length : Int)
  ·rw [if_pos c5] at H
   have c5b0 : decide (t534 < (l1.length : Int)) = true := decide_eq_true c5
   clear c5
   simp only [Option.some.injEq, Prod.mk.injEq] at H
   obtain ⟨rfl, rfl, rfl⟩ := H
   go_enter Try.func84, Try.ntmps84
   go_wp2_with (first | (refine gL 47 Try.func47 (some 9) #[.pointer (some ⟨g, 0, none⟩), .int .i64 (l1.length : Int)] ?_; (with_reducible refine (spec_l1Cur_pick.calls g s0_0 s0_1 s0_2 (l1.length : Int) t534 t535 t536 w0 _ ?side1 ?side2 A3.out).mono ?_); (case side1 => exact is HI0.out); (case side2 => exact bl1 HB.out (IsS78.ge HI0.out)); rintro e w6 ⟨rfl, hi, hb, hk⟩; refine ⟨_, rfl, ?_⟩; replace HK := ak (KeepBut.trans (kb HK.out) hk (.inl rfl)); replace HB := ak hb; replace HI0 := ak hi; clear hb hk hi; have p537 : 0 ≤ (t534 : Int) := od; have q537 : t534 < (l1.length : Int) := od; obtain ⟨ad537, e537, hx537_0⟩ := Kd.at_int HR1.out t534 p537 q537; cases e537; replace hx537_0 := keep_cell HK.out hx537_0 (by first | (rw [add_block]; exact hf1 _ rfl (by omega)) | exact hf1 _ rfl (by omega) | exact hf1 ad537 rfl (by omega)); replace p537 := eq_true p537; replace q537 := eq_true q537))
   go_ret
   exact ⟨by first | rfl | (simp [errW_none, errW_some] <;> rfl) | (simp [*, errW_none, errW_some] <;> rfl), by repeat (first | (with_reducible first | exact HI0.out | apply IsS78.alloc | apply IsS78.drewN | apply IsS78.drew | apply IsS78.set_1 | apply IsS78.set_2) | exact HI0.out), bl1 HB.out (IsS78.ge HI0.out), kb HK.out⟩
  ·rw [if_neg c5] at H
   exact absurd H (by simp)
 ·rw [if_neg c4] at H
  exact absurd H (by simp)

/-! ### spec_l1Cur_segmented: function 63 -/
mutual
def spec_l1Cur_segmented.j0 : Nat → List (S45) → List Int → Int → Int → Option (Int × Int × (List (S45)) × (List (S45)) × Int × Int)
 | 0, _, _, _, _ => none
 | k + 1, x3, x1000, x1001, x1002 => (spec_l1Cur_pick.f x1000 x1001 x1002 100).bind fun bt548 => ((spec_l1Cur_pick.f x1000 bt548.2.1 bt548.2.2 100).bind fun bt551 => ((spec_PlaySegmented.f k (wrap64 (100 + bt548.1)) (wrap64 (100 + bt551.1)) x3).bind fun bt554 => (if bt554.2.2.2.2.2 = true then (spec_l1Cur_segmented.j1 k x1000 bt551.2.1 bt551.2.2 bt554.1 bt554.2.1 bt554.2.2.1 bt554.2.2.2.1) else ((spec_NewSegmented.f 100 100).bind fun bt566 => (spec_l1Cur_segmented.j1 k x1000 bt551.2.1 bt551.2.2 bt566.1 bt566.2.1 bt566.2.2.1 bt566.2.2.2.1)))))
def spec_l1Cur_segmented.j1 : Nat → List Int → Int → Int → Int → Int → List (S45) → List (S45) → Option (Int × Int × (List (S45)) × (List (S45)) × Int × Int)
 | 0, _, _, _, _, _, _, _ => none
 | k + 1, x1000, x1001, x1002, x548000, x548001, x548002, x548003 => (spec_l1Cur_pick.f x1000 x1001 x1002 40).bind fun bt575 => (if bt575.1 = 0 then ((spec_l1Cur_among.f x1000 bt575.2.1 bt575.2.2 (([99, 100, 2000, 2001] : List Int))).bind fun bt581 => (some (x548000, bt581.1, x548002, x548003, bt581.2.1, bt581.2.2))) else (if bt575.1 = 1 then ((spec_l1Cur_entry.f k x1000 bt575.2.1 bt575.2.2).bind fun bt584 => (if x548002.length < 4398046511104 then (some (x548000, x548001, (x548002 ++ [(⟨bt584.1, bt584.2.1⟩ : S45)]), x548003, bt584.2.2.1, bt584.2.2.2)) else (none))) else (some (x548000, x548001, x548002, x548003, bt575.2.1, bt575.2.2))))
end
def spec_l1Cur_segmented.f (k : Nat) (s0_0 : List Int) (s0_1 : Int) (s0_2 : Int) : Option (Int × Int × (List (S45)) × (List (S45)) × Int × Int) := (spec_l1Cur_entries.f k s0_0 s0_1 s0_2).bind fun bt539 => (if (bt539.1.length : Int) > 200 then (if 60 ≤ (bt539.1.length : Int) then (spec_l1Cur_segmented.j0 k (bt539.1.take (60 : Int).toNat) s0_0 bt539.2.1 bt539.2.2) else (none)) else (spec_l1Cur_segmented.j0 k bt539.1 s0_0 bt539.2.1 bt539.2.2))
theorem spec_l1Cur_segmented.mono_l : ∀ k, (∀ y0 y1 y2 y3, LeO (spec_l1Cur_segmented.j0 k y0 y1 y2 y3) (spec_l1Cur_segmented.j0 (k + 1) y0 y1 y2 y3)) ∧ (∀ y0 y1 y2 y3 y4 y5 y6, LeO (spec_l1Cur_segmented.j1 k y0 y1 y2 y3 y4 y5 y6) (spec_l1Cur_segmented.j1 (k + 1) y0 y1 y2 y3 y4 y5 y6))
 | 0 => ⟨fun _ _ _ _ r h => by simp [spec_l1Cur_segmented.j0] at h, fun _ _ _ _ _ _ _ r h => by simp [spec_l1Cur_segmented.j1] at h⟩
 | k + 1 => by
  obtain ⟨ih0, ih1⟩ := spec_l1Cur_segmented.mono_l k
  refine ⟨?_, ?_⟩
  ·intro y0 y1 y2 y3
   unfold spec_l1Cur_segmented.j0
   repeat' first
   | (with_reducible exact ih0 _ _ _ _)
   | (with_reducible exact ih1 _ _ _ _ _ _ _)
   | (with_reducible exact spec_PlaySegmented.mono _ _ _ _)
   | (with_reducible exact spec_l1Cur_entries.mono _ _ _ _)
   | (with_reducible exact spec_l1Cur_entry.mono _ _ _ _)
   | (with_reducible exact LeO.refl _)
   | (with_reducible exact LeO.none _)
   | (with_reducible refine LeO.ite ?_ ?_)
   | (with_reducible refine LeO.bind ?_ (fun _ => ?_))
   | exact ih0 _ _ _ _
   | exact ih1 _ _ _ _ _ _ _
   | exact spec_PlaySegmented.mono _ _ _ _
   | exact spec_l1Cur_entries.mono _ _ _ _
   | exact spec_l1Cur_entry.mono _ _ _ _
   | exact LeO.none _
   | refine LeO.ite ?_ ?_
   | refine LeO.bind ?_ (fun _ => ?_)
  ·intro y0 y1 y2 y3 y4 y5 y6
   unfold spec_l1Cur_segmented.j1
   repeat' first
   | (with_reducible exact ih0 _ _ _ _)
   | (with_reducible exact ih1 _ _ _ _ _ _ _)
   | (with_reducible exact spec_PlaySegmented.mono _ _ _ _)
   | (with_reducible exact spec_l1Cur_entries.mono _ _ _ _)
   | (with_reducible exact spec_l1Cur_entry.mono _ _ _ _)
   | (with_reducible exact LeO.refl _)
   | (with_reducible exact LeO.none _)
   | (with_reducible refine LeO.ite ?_ ?_)
   | (with_reducible refine LeO.bind ?_ (fun _ => ?_))
   | exact ih0 _ _ _ _
   | exact ih1 _ _ _ _ _ _ _
   | exact spec_PlaySegmented.mono _ _ _ _
   | exact spec_l1Cur_entries.mono _ _ _ _
   | exact spec_l1Cur_entry.mono _ _ _ _
   | exact LeO.none _
   | refine LeO.ite ?_ ?_
   | refine LeO.bind ?_ (fun _ => ?_)
theorem spec_l1Cur_segmented.mono : ∀ a0 a1 a2 k, LeO (spec_l1Cur_segmented.f k a0 a1 a2) (spec_l1Cur_segmented.f (k + 1) a0 a1 a2) := by
 intro a0 a1 a2 k
 obtain ⟨ih0, ih1⟩ := spec_l1Cur_segmented.mono_l k
 unfold spec_l1Cur_segmented.f
 repeat' first
   | (with_reducible exact ih0 _ _ _ _)
   | (with_reducible exact ih1 _ _ _ _ _ _ _)
   | (with_reducible exact spec_PlaySegmented.mono _ _ _ _)
   | (with_reducible exact spec_l1Cur_entries.mono _ _ _ _)
   | (with_reducible exact spec_l1Cur_entry.mono _ _ _ _)
   | (with_reducible exact LeO.refl _)
   | (with_reducible exact LeO.none _)
   | (with_reducible refine LeO.ite ?_ ?_)
   | (with_reducible refine LeO.bind ?_ (fun _ => ?_))
   | exact ih0 _ _ _ _
   | exact ih1 _ _ _ _ _ _ _
   | exact spec_PlaySegmented.mono _ _ _ _
   | exact spec_l1Cur_entries.mono _ _ _ _
   | exact spec_l1Cur_entry.mono _ _ _ _
   | exact LeO.none _
   | refine LeO.ite ?_ ?_
   | refine LeO.bind ?_ (fun _ => ?_)
def spec_l1Cur_segmented.T12 : Bool × List (List Nat × List Nat) := (true, [([], []), ([0], [0]), ([], []), ([2], [2]), ([3], [3]), ([1, 4, 3], [1, 4]), ([0, 1, 2, 3, 4, 5], []), ([6, 5, 5, 0, 1, 2, 3, 4, 5], [5, 6])])
def spec_l1Cur_segmented.B12 : List Nat := [0, 1, 0, 4, 12, 31, 63, 127]
theorem spec_l1Cur_segmented.tab12 : rtab .any (opsOf Try.f63 12) = spec_l1Cur_segmented.T12 := by kernel_rfl
theorem spec_l1Cur_segmented.bits12 : waitsOk spec_l1Cur_segmented.T12.2 spec_l1Cur_segmented.B12 = true := by kernel_rfl
set_option maxHeartbeats 8000000 in
set_option maxRecDepth 100000 in
theorem spec_l1Cur_segmented.calls (k : Nat) (g : Nat) (s0_0 : List Int) (s0_1 : Int) (s0_2 : Int) (r1 : Int) (r2 : Int) (r3 : List (S45)) (r4 : List (S45)) (r5 : Int) (r6 : Int) (w0 w : World) (hI : IsS78 w0 w g s0_0 s0_1 s0_2) (hB : Below w0.heap.size w0 w) (h : spec_l1Cur_segmented.f k s0_0 s0_1 s0_2 = some (r1, r2, r3, r4, r5, r6)) :
  Calls Try.prog 63 #[.pointer (some ⟨g, 0, none⟩)] w fun e w' => ∃ v2_ v3_ : Value, e = .returned (.agg #[.int .i64 r1, .int .i64 r2, v2_, v3_]) ∧ Kd.R k45 45 w' w.heap.size (fun k_ => some k_ ≠ (v3_ : Value).ownBlock) v2_ r3 ∧ Kd.R k45 45 w' w.heap.size (fun k_ => some k_ ≠ (v2_ : Value).ownBlock) v3_ r4 ∧ IsS78 w0 w' g s0_0 r5 r6 ∧ Below w0.heap.size w0 w' ∧ KeepBut w w' g none := by
 have hu28 := Try.underlying28
 have HI0 := ak hI
 have HK := ak (KeepBut.refl w g none)
 have HL := ak hB.size
 clear hI
 have HW0 := ak hB.size
 have HB := ak hB
 clear hB
 have H : ((spec_l1Cur_entries.f k s0_0 s0_1 s0_2).bind fun bt539 => (if (bt539.1.length : Int) > 200 then (if 60 ≤ (bt539.1.length : Int) then (spec_l1Cur_segmented.j0 k (bt539.1.take (60 : Int).toNat) s0_0 bt539.2.1 bt539.2.2) else (none)) else (spec_l1Cur_segmented.j0 k bt539.1 s0_0 bt539.2.1 bt539.2.2))) = some (r1, r2, r3, r4, r5, r6) := h
 clear h
 replace H := Option.bind_eq_some_iff.mp H
 obtain ⟨⟨t539, t542, t543⟩, A20, H⟩ := H
 try dsimp only at H
 have A2 := ak A20
 clear A20
 have HC3 := ak H
 clear H
 go_enter Try.func63, Try.ntmps63
 go_upto_if 10 with (first | (refine bE 2 #[.int .i64 0, .int .i64 0, .slice none 0 0, .slice none 0 0] 28 ?_; intro gb538 hg w4 hbox hb; replace HB := ak (below_step (bl1 HB.out (IsS78.ge HI0.out)) hb); have BK538 := ak hbox; have GW538 := ak (gb hg (kb HK.out)); have GE538 := ak ((Nat.le_trans HW0.out (gb hg (kb HK.out)) : w0.heap.size ≤ gb538)); replace HK := ak (KeepBut.trans (kb HK.out) (KeepBut.of_below hb g none) (.inl rfl)); have NB0_538 := ak ((by rw [hg]; exact Nat.ne_of_lt (IsS78.lt (show IsS78 w0 _ g s0_0 s0_1 s0_2 from is HI0.out)) : g ≠ gb538)); have NB538_0 := ak ((by rw [hg]; exact Nat.ne_of_gt (IsS78.lt (show IsS78 w0 _ g s0_0 s0_1 s0_2 from is HI0.out)) : gb538 ≠ g)); replace HI0 := ak (IsS78.below (is HI0.out) hb); clear hb hbox hg) | (refine gL 48 Try.func48 (some 7) #[.pointer (some ⟨g, 0, none⟩)] ?_; (with_reducible refine (spec_l1Cur_entries.calls k g s0_0 s0_1 s0_2 t539 t542 t543 w0 _ ?side1 ?side2 A2.out).mono ?_); (case side1 => exact is1 HI0.out NB0_538.out); (case side2 => exact bl2 HB.out (IsS78.ge HI0.out) GE538.out); rintro e w5 ⟨v540, rfl, ho0, hi, hb, hk⟩; refine ⟨_, rfl, ?_⟩; replace BK538 := ak (KeepBut.blk hk (g' := gb538) (o := .cells #[.int .i64 0, .int .i64 0, .slice none 0 0, .slice none 0 0] 28 (0, 0)) (bk BK538.out) NB538_0.out (by simp)); have HO541 := ak (Kd.R_lower ho0 (keep_size (kb1 HK.out GW538.out))); replace HK := ak (KeepBut.trans (kb1 HK.out GW538.out) hk (.inl rfl)); replace HB := ak hb; replace HI0 := ak hi; clear hb hk hi ho0; obtain ⟨Ao6, co6, eo6⟩ := Kd.R_slice HO541.out; subst eo6))
 (try simp only [Act.put, List.setIfInBounds_toArray, List.set_cons_zero, List.set_cons_succ])
 go_cut [3] (fun v3 wc => ∃ (kq : Nat) (x3_2 : List (S45)), Aside0 (spec_l1Cur_segmented.j0 kq x3_2 s0_0 t542 t543 = some (r1, r2, r3, r4, r5, r6)) ∧ Aside0 (kq ≤ k) ∧ Aside0 (Kd.R k45 45 wc w.heap.size (fun _ => True) v3 x3_2) ∧ Aside0 (wc.heap[gb538]? = some (.cells #[.int .i64 0, .int .i64 0, (.slice none 0 0), (.slice none 0 0)] 28 (0, 0))) ∧ Aside0 (IsS78 w0 wc g s0_0 t542 t543) ∧ Aside0 (KeepBut w wc g none) ∧ Aside0 (Below w0.heap.size w0 wc))
 case first =>
  have H := HC3.out
  clear HC3
  by_cases c7 : (t539.length : Int) > 200
  ·rw [if_pos c7] at H
   have c7b0 : decide (200 < (t539.length : Int)) = true := decide_eq_true c7
   have c7b1 : decide (200 < t539.length) = true := decide_eq_true (by omega)
   clear c7
   (first | rw [c7b0] | (simp only [i64_w, i32_w]; rw [c7b0]) | skip)
   by_cases c8 : 60 ≤ (t539.length : Int)
   ·rw [if_pos c8] at H
    have c8b0 := eq_true c8
    have c8b1 : decide (60 ≤ (t539.length : Int)) = true := decide_eq_true c8
    clear c8
    obtain ⟨y544, hy544⟩ : ∃ y_ : List (S45), y_ = (t539.take (60 : Int).toNat) := ⟨_, rfl⟩
    replace H : (spec_l1Cur_segmented.j0 k y544 s0_0 t542 t543) = some (r1, r2, r3, r4, r5, r6) := by first | (rw [hy544]; with_reducible exact H) | (have H2_ := (Option.bind_some _ _).symm.trans H; rw [hy544]; with_reducible exact H2_) | (have H2_ := (Option.bind_some _ _).symm.trans H; with_reducible exact H2_) | with_reducible exact H | (rw [hy544]; exact H) | exact H
    have Ny544 := ak hy544
    clear hy544
    have H' := ak H
    clear H
    have q9 : (60 : Int) ≤ ((t539.length : Int) : Int) := od
    obtain ⟨i09, hi09, _, hsz9, _⟩ := info_parts info45
    have hcut9 := cut_to (P := Try.prog) 26 45 .i64 Try.underlying26 hi09 Ao6 t539.length co6 60 (by omega) q9 (Kd.R_reads' HO541.out).2.1
    have hr9 := Kd.R_take (m := (60 : Int).toNat) HO541.out (by omega)
    have hy9 : y544.length = (60 : Int).toNat := (by rw [Ny544.out, List.length_take]; omega)
    rw [← Ny544.out] at hr9
    rw [← hy9] at hr9 hcut9
    clear hy9 hi09 hsz9 HO541
    have HO546 := ak hr9
    clear hr9
    replace q9 := eq_true q9
    go_wp2
    go_meet
    case rel => exact ⟨_, (y544), H', ⟨by first | omega | exact Nat.le_refl _⟩, ⟨kr HO546.out⟩, ⟨bk BK538.out⟩, ⟨by repeat (first | (with_reducible first | exact HI0.out | apply IsS78.alloc | apply IsS78.drewN | apply IsS78.drew | apply IsS78.set_1 | apply IsS78.set_2 | refine IsS78.far ?_ NB0_538.out _) | exact HI0.out)⟩, ⟨by repeat (first | (with_reducible first | exact HK.out | apply KeepBut.set_ | apply keep_drewN | apply keep_drew | apply keep_alloc | refine keep_far ?_ GW538.out _) | exact HK.out)⟩, ⟨bl2 HB.out (IsS78.ge HI0.out) GE538.out⟩⟩
   ·rw [if_neg c8] at H
    exact absurd H (by simp)
  ·rw [if_neg c7] at H
   have c7b0 : decide (200 < (t539.length : Int)) = false := decide_eq_false c7
   have c7b1 : decide (200 < t539.length) = false := decide_eq_false (by omega)
   clear c7
   (first | rw [c7b0] | (simp only [i64_w, i32_w]; rw [c7b0]) | skip)
   have H' := ak H
   clear H
   go_wp2
   go_meet
   case rel => exact ⟨_, (t539), H', ⟨by first | omega | exact Nat.le_refl _⟩, ⟨kr HO541.out⟩, ⟨bk BK538.out⟩, ⟨by repeat (first | (with_reducible first | exact HI0.out | apply IsS78.alloc | apply IsS78.drewN | apply IsS78.drew | apply IsS78.set_1 | apply IsS78.set_2 | refine IsS78.far ?_ NB0_538.out _) | exact HI0.out)⟩, ⟨by repeat (first | (with_reducible first | exact HK.out | apply KeepBut.set_ | apply keep_drewN | apply keep_drew | apply keep_alloc | refine keep_far ?_ GW538.out _) | exact HK.out)⟩, ⟨bl2 HB.out (IsS78.ge HI0.out) GE538.out⟩⟩
 case rest =>
  clear HC3
  try clear p2
  try clear c4
  try clear c6
  try clear c7
  try clear c7b0
  try clear c7b1
  try clear c8
  try clear c8b0
  try clear c8b1
  try clear q9
  try clear q9
  obtain ⟨kq, x3_2, HA, HJ2, HO_3, BK538, HI0, HK, HB⟩ := hcut
  cases kq with
  | zero => exact absurd HA.out (by simp [spec_l1Cur_segmented.j0])
  | succ kj2 =>
   have H := HA.out
   clear HA
   simp only [spec_l1Cur_segmented.j0] at H
   replace H := Option.bind_eq_some_iff.mp H
   obtain ⟨⟨t548, t549, t550⟩, A100, H⟩ := H
   try dsimp only at H
   have A10 := ak A100
   clear A100
   replace H := Option.bind_eq_some_iff.mp H
   obtain ⟨⟨t551, t552, t553⟩, A110, H⟩ := H
   try dsimp only at H
   have A11 := ak A110
   clear A110
   replace H := Option.bind_eq_some_iff.mp H
   obtain ⟨⟨t554, t555, t556, t559, t562, t565⟩, A120, H⟩ := H
   try dsimp only at H
   have A12 := ak A120
   clear A120
   have HC13 := ak H
   clear H
   go_upto_if 27 with (first | (refine bE 4 #[.int .i64 0, .int .i64 0, .slice none 0 0, .slice none 0 0] 28 ?_; intro gb547 hg w14 hbox hb; replace HO_3 := ak (Kd.R_below (kr HO_3.out) hb); replace HB := ak (below_step (bl2 HB.out (IsS78.ge HI0.out) GE538.out) hb); have BK547 := ak hbox; have GW547 := ak (gb hg (kb1 HK.out GW538.out)); have GE547 := ak ((Nat.le_trans HW0.out (gb hg (kb1 HK.out GW538.out)) : w0.heap.size ≤ gb547)); replace HK := ak (KeepBut.trans (kb1 HK.out GW538.out) (KeepBut.of_below hb g none) (.inl rfl)); have NB538_547 := nl hg BK538.out; have NB547_538 := ng hg BK538.out; replace BK538 := ak (blk_below (bk BK538.out) hb); have NB0_547 := ak ((by rw [hg]; exact Nat.ne_of_lt (IsS78.lt (show IsS78 w0 _ g s0_0 t542 t543 from is1 HI0.out NB0_538.out)) : g ≠ gb547)); have NB547_0 := ak ((by rw [hg]; exact Nat.ne_of_gt (IsS78.lt (show IsS78 w0 _ g s0_0 t542 t543 from is1 HI0.out NB0_538.out)) : gb547 ≠ g)); replace HI0 := ak (IsS78.below (is1 HI0.out NB0_538.out) hb); clear hb hbox hg; have hnb15 := NB547_538.out; have hnc15 := NB538_547.out; have hnb16 := NB547_0.out; have hnc16 := NB0_547.out; obtain ⟨hcz17_0, hcz17_1, hcz17_2, hcz17_3, hfz17_0, hfz17_1, hfz17_2, hfz17_3⟩ := b4 BK547.out) | (refine gL 47 Try.func47 (some 16) #[.pointer (some ⟨g, 0, none⟩), .int .i64 100] ?_; (with_reducible refine (spec_l1Cur_pick.calls g s0_0 t542 t543 100 t548 t549 t550 w0 _ ?side1 ?side2 A10.out).mono ?_); (case side1 => exact is2 HI0.out NB0_538.out NB0_547.out); (case side2 => exact bl3 HB.out (IsS78.ge HI0.out) GE538.out GE547.out); rintro e w18 ⟨rfl, hi, hb, hk⟩; refine ⟨_, rfl, ?_⟩; replace HO_3 := ak (Kd.R_mono (Kd.R_keep (IsS78.apart (show IsS78 w0 _ g s0_0 t542 t543 from is2 HI0.out NB0_538.out NB0_547.out) (by (with_reducible repeat (first | apply Kd.R_alloc | apply Kd.R_drewN | apply Kd.R_drew)); exact (Kd.R_mono (Kd.R_far (p := ⟨gb547, 3, none⟩) (Kd.R_far (p := ⟨gb547, 2, none⟩) (Kd.R_far (p := ⟨gb547, 1, none⟩) (Kd.R_far (p := ⟨gb547, 0, none⟩) (Kd.R_types HO_3.out BK547.out (by decide)) (fun _ hk => hk.2) (.int .i64 0)) (fun _ hk => hk.2) (.int .i64 0)) (fun _ hk => hk.2) (.slice none 0 0)) (fun _ hk => hk.2) (.slice none 0 0)) (fun _ h_ => h_.1))) (by decide)) hk (fun _ h => h.2)) (fun _ h => h.1)); replace BK538 := ak (KeepBut.blk hk (g' := gb538) (o := .cells #[.int .i64 0, .int .i64 0, .slice none 0 0, .slice none 0 0] 28 (0, 0)) (bq BK538.out) NB538_0.out (by simp)); replace BK547 := ak (KeepBut.blk hk (g' := gb547) (o := .cells #[.int .i64 0, .int .i64 0, .slice none 0 0, .slice none 0 0] 28 (0, 0)) (bq BK547.out) NB547_0.out (by simp)); replace HK := ak (KeepBut.trans (kb2 HK.out GW538.out GW547.out) hk (.inl rfl)); replace HB := ak hb; replace HI0 := ak hi; clear hb hk hi) | (refine gL 47 Try.func47 (some 19) #[.pointer (some ⟨g, 0, none⟩), .int .i64 100] ?_; (with_reducible refine (spec_l1Cur_pick.calls g s0_0 t549 t550 100 t551 t552 t553 w0 _ ?side1 ?side2 A11.out).mono ?_); (case side1 => exact is2 HI0.out NB0_538.out NB0_547.out); (case side2 => exact bl3 HB.out (IsS78.ge HI0.out) GE538.out GE547.out); rintro e w19 ⟨rfl, hi, hb, hk⟩; refine ⟨_, rfl, ?_⟩; replace HO_3 := ak (Kd.R_mono (Kd.R_keep (IsS78.apart (show IsS78 w0 _ g s0_0 t549 t550 from is2 HI0.out NB0_538.out NB0_547.out) (kr HO_3.out) (by decide)) hk (fun _ h => h.2)) (fun _ h => h.1)); replace BK538 := ak (KeepBut.blk hk (g' := gb538) (o := .cells #[.int .i64 0, .int .i64 0, .slice none 0 0, .slice none 0 0] 28 (0, 0)) (bk BK538.out) NB538_0.out (by simp)); replace BK547 := ak (KeepBut.blk hk (g' := gb547) (o := .cells #[.int .i64 0, .int .i64 0, .slice none 0 0, .slice none 0 0] 28 (0, 0)) (bk BK547.out) NB547_0.out (by simp)); replace HK := ak (KeepBut.trans (kb2 HK.out GW538.out GW547.out) hk (.inl rfl)); replace HB := ak hb; replace HI0 := ak hi; clear hb hk hi; obtain ⟨Ao20, co20, eo20⟩ := Kd.R_slice HO_3.out; subst eo20) | (refine gL 18 Try.func18 (some 22) #[.int .i64 (wrap64 (100 + t548)), .int .i64 (wrap64 (100 + t551)), .slice Ao20 x3_2.length co20] ?_; (with_reducible refine (spec_PlaySegmented.calls kj2 (wrap64 (100 + t548)) (wrap64 (100 + t551)) _ _ x3_2 t554 t555 t556 t559 t562 t565 _ ?side1 ?side2 A12.out).mono ?_); (case side1 => exact kc (Kd.R_reads' HO_3.out).2.2); (case side2 => exact (Kd.R_reads' HO_3.out).2.1); rintro e w21 ⟨v557, v560, v563, rfl, ho0, ho1, ho2, hb⟩; refine ⟨_, rfl, ?_⟩; have HO558 := ak (Kd.R_lower (Kd.R_new' ho0 (Kd.R_lt (kr HO_3.out))) (keep_size (kb2 HK.out GW538.out GW547.out))); have HO561 := ak (Kd.R_lower (Kd.R_new' ho1 (Kd.R_lt (kr HO_3.out))) (keep_size (kb2 HK.out GW538.out GW547.out))); replace HO_3 := ak (Kd.R_mono (Kd.R_told (Kd.R_told (Kd.R_old (kr HO_3.out) hb) (Kd.R_base ho0)) (Kd.R_base ho1)) (fun _ h_ => h_.1)); have HO564 := ak (Kd.R_lower ho2 (keep_size (kb2 HK.out GW538.out GW547.out))); replace BK538 := ak (blk_below (bk BK538.out) hb); replace BK547 := ak (blk_below (bk BK547.out) hb); replace HK := ak (KeepBut.trans (kb2 HK.out GW538.out GW547.out) (KeepBut.of_below hb g none) (.inl rfl)); replace HB := ak (below_step (bl3 HB.out (IsS78.ge HI0.out) GE538.out GE547.out) hb); replace HI0 := ak (IsS78.below (is2 HI0.out NB0_538.out NB0_547.out) hb); clear hb ho0 ho1 ho2; obtain ⟨hcz22_0, hcz22_1, hcz22_2, hcz22_3, hfz22_0, hfz22_1, hfz22_2, hfz22_3⟩ := b4 BK547.out; obtain ⟨Ao23, co23, eo23⟩ := Kd.R_slice HO558.out; subst eo23; obtain ⟨Ao24, co24, eo24⟩ := Kd.R_slice HO561.out; subst eo24))
   (try simp only [Act.put, List.setIfInBounds_toArray, List.set_cons_zero, List.set_cons_succ])
   go_cut [] (fun wc => ∃ (kq : Nat) (x548000_12 : Int) (x548001_12 : Int) (x548002_12 : List (S45)) (x548003_12 : List (S45)) (u548002 : Value) (u548003 : Value), Aside0 (spec_l1Cur_segmented.j1 kq s0_0 t552 t553 x548000_12 x548001_12 x548002_12 x548003_12 = some (r1, r2, r3, r4, r5, r6)) ∧ Aside0 (kq ≤ kj2) ∧ Aside0 (Kd.R k45 45 wc w.heap.size (fun k_ => some k_ ≠ (u548003 : Value).ownBlock) u548002 x548002_12) ∧ Aside0 (Kd.R k45 45 wc w.heap.size (fun k_ => some k_ ≠ (u548002 : Value).ownBlock) u548003 x548003_12) ∧ Aside0 (wc.heap[gb538]? = some (.cells #[.int .i64 0, .int .i64 0, (.slice none 0 0), (.slice none 0 0)] 28 (0, 0))) ∧ Aside0 (wc.heap[gb547]? = some (.cells #[.int .i64 x548000_12, .int .i64 x548001_12, u548002, u548003] 28 (0, 0))) ∧ Aside0 (IsS78 w0 wc g s0_0 t552 t553) ∧ Aside0 (KeepBut w wc g none) ∧ Aside0 (Below w0.heap.size w0 wc))
   case first =>
    have H := HC13.out
    clear HC13
    by_cases c25 : t565 = true
    ·subst c25
     have H1 : (spec_l1Cur_segmented.j1 kj2 s0_0 t552 t553 t554 t555 t556 t559) = some (r1, r2, r3, r4, r5, r6) := by rw [if_pos rfl] at H; exact H
     clear H
     have H := H1
     clear H1
     have H' := ak H
     clear H
     go_wp2
     go_meet
     case rel => exact ⟨_, (t554), (t555), (t556), (t559), (.slice Ao23 t556.length co23), (.slice Ao24 t559.length co24), H', ⟨by have := HJ2.out; first | omega | exact Nat.le_refl _⟩, ⟨by (with_reducible repeat (first | apply Kd.R_alloc | apply Kd.R_drewN | apply Kd.R_drew)); exact Kd.R_mono (Kd.R_far (p := ⟨gb547, 3, none⟩) (Kd.R_far (p := ⟨gb547, 2, none⟩) (Kd.R_far (p := ⟨gb547, 1, none⟩) (Kd.R_far (p := ⟨gb547, 0, none⟩) (Kd.R_types HO558.out BK547.out (by decide)) (fun _ hk => hk.2) (.int .i64 t554)) (fun _ hk => hk.2) (.int .i64 t555)) (fun _ hk => hk.2) (.slice Ao23 t556.length co23)) (fun _ hk => hk.2) (.slice Ao24 t559.length co24)) (fun _ hk => hk.1.1)⟩, ⟨by (with_reducible repeat (first | apply Kd.R_alloc | apply Kd.R_drewN | apply Kd.R_drew)); exact Kd.R_mono (Kd.R_far (p := ⟨gb547, 3, none⟩) (Kd.R_far (p := ⟨gb547, 2, none⟩) (Kd.R_far (p := ⟨gb547, 1, none⟩) (Kd.R_far (p := ⟨gb547, 0, none⟩) (Kd.R_types HO561.out BK547.out (by decide)) (fun _ hk => hk.2) (.int .i64 t554)) (fun _ hk => hk.2) (.int .i64 t555)) (fun _ hk => hk.2) (.slice Ao23 t556.length co23)) (fun _ hk => hk.2) (.slice Ao24 t559.length co24)) (fun _ hk => hk.1.1)⟩, ⟨by (with_reducible repeat (first | refine blk_drewN ?_ _ | refine blk_drew ?_ | refine blk_alloc ?_ _)); refine blk_far ?_ NB538_547.out _; (with_reducible repeat (first | refine blk_drewN ?_ _ | refine blk_drew ?_ | refine blk_alloc ?_ _)); refine blk_far ?_ NB538_547.out _; (with_reducible repeat (first | refine blk_drewN ?_ _ | refine blk_drew ?_ | refine blk_alloc ?_ _)); refine blk_far ?_ NB538_547.out _; (with_reducible repeat (first | refine blk_drewN ?_ _ | refine blk_drew ?_ | refine blk_alloc ?_ _)); refine blk_far ?_ NB538_547.out _; exact bk BK538.out⟩, ⟨by (with_reducible repeat (first | refine blk_drewN ?_ _ | refine blk_drew ?_ | refine blk_alloc ?_ _)); refine blk_put (cs := #[.int .i64 t554, .int .i64 t555, .slice Ao23 t556.length co23, .slice none 0 0]) ?_ 3 _ rfl; (with_reducible repeat (first | refine blk_drewN ?_ _ | refine blk_drew ?_ | refine blk_alloc ?_ _)); refine blk_put (cs := #[.int .i64 t554, .int .i64 t555, .slice none 0 0, .slice none 0 0]) ?_ 2 _ rfl; (with_reducible repeat (first | refine blk_drewN ?_ _ | refine blk_drew ?_ | refine blk_alloc ?_ _)); refine blk_put (cs := #[.int .i64 t554, .int .i64 0, .slice none 0 0, .slice none 0 0]) ?_ 1 _ rfl; (with_reducible repeat (first | refine blk_drewN ?_ _ | refine blk_drew ?_ | refine blk_alloc ?_ _)); refine blk_put (cs := #[.int .i64 0, .int .i64 0, .slice none 0 0, .slice none 0 0]) ?_ 0 _ rfl; exact bk BK547.out⟩, ⟨by repeat (first | (with_reducible first | exact HI0.out | apply IsS78.alloc | apply IsS78.drewN | apply IsS78.drew | apply IsS78.set_1 | apply IsS78.set_2 | refine IsS78.far ?_ NB0_538.out _ | refine IsS78.far ?_ NB0_547.out _) | exact HI0.out)⟩, ⟨by repeat (first | (with_reducible first | exact HK.out | apply KeepBut.set_ | apply keep_drewN | apply keep_drew | apply keep_alloc | refine keep_far ?_ GW538.out _ | refine keep_far ?_ GW547.out _) | exact HK.out)⟩, ⟨bl3 HB.out (IsS78.ge HI0.out) GE538.out GE547.out⟩⟩
    ·replace c25 := Bool.eq_false_iff.mpr c25
     subst c25
     have H1 : ((spec_NewSegmented.f 100 100).bind fun bt566 => (spec_l1Cur_segmented.j1 kj2 s0_0 t552 t553 bt566.1 bt566.2.1 bt566.2.2.1 bt566.2.2.2.1)) = some (r1, r2, r3, r4, r5, r6) := by rw [if_neg (show ¬ (false = true) by decide)] at H; exact H
     clear H
     have H := H1
     clear H1
     replace H := Option.bind_eq_some_iff.mp H
     obtain ⟨⟨t566, t567, t568, t571, t574⟩, A260, H⟩ := H
     try dsimp only at H
     have A26 := ak A260
     clear A260
     have H' := ak H
     clear H
     go_wp2_with (first | (refine gL 54 Try.func54 (some 29) #[.int .i64 100, .int .i64 100] ?_; (with_reducible refine (spec_NewSegmented.calls 100 100 t566 t567 t568 t571 t574 _ A26.out).mono ?_); rintro e w27 ⟨v569, v572, rfl, ho0, ho1, hb⟩; refine ⟨_, rfl, ?_⟩; replace HO564 := ak (Kd.R_below (by (with_reducible repeat (first | apply Kd.R_alloc | apply Kd.R_drewN | apply Kd.R_drew)); exact (Kd.R_mono (Kd.R_far (p := ⟨gb547, 3, none⟩) (Kd.R_far (p := ⟨gb547, 2, none⟩) (Kd.R_far (p := ⟨gb547, 1, none⟩) (Kd.R_far (p := ⟨gb547, 0, none⟩) (Kd.R_types HO564.out BK547.out (by decide)) (fun _ hk => hk.2) (.int .i64 t554)) (fun _ hk => hk.2) (.int .i64 t555)) (fun _ hk => hk.2) (.slice Ao23 t556.length co23)) (fun _ hk => hk.2) (.slice Ao24 t559.length co24)) (fun _ h_ => h_.1))) hb); have HO570 := ak (Kd.R_lower (Kd.R_new' (Kd.R_new' (Kd.R_new' ho0 (Kd.R_lt (by (with_reducible repeat (first | apply Kd.R_alloc | apply Kd.R_drewN | apply Kd.R_drew)); exact (Kd.R_mono (Kd.R_far (p := ⟨gb547, 3, none⟩) (Kd.R_far (p := ⟨gb547, 2, none⟩) (Kd.R_far (p := ⟨gb547, 1, none⟩) (Kd.R_far (p := ⟨gb547, 0, none⟩) (Kd.R_types HO_3.out BK547.out (by decide)) (fun _ hk => hk.2) (.int .i64 t554)) (fun _ hk => hk.2) (.int .i64 t555)) (fun _ hk => hk.2) (.slice Ao23 t556.length co23)) (fun _ hk => hk.2) (.slice Ao24 t559.length co24)) (fun _ h_ => h_.1))))) (Kd.R_lt (by (with_reducible repeat (first | apply Kd.R_alloc | apply Kd.R_drewN | apply Kd.R_drew)); exact (Kd.R_mono (Kd.R_far (p := ⟨gb547, 3, none⟩) (Kd.R_far (p := ⟨gb547, 2, none⟩) (Kd.R_far (p := ⟨gb547, 1, none⟩) (Kd.R_far (p := ⟨gb547, 0, none⟩) (Kd.R_types HO558.out BK547.out (by decide)) (fun _ hk => hk.2) (.int .i64 t554)) (fun _ hk => hk.2) (.int .i64 t555)) (fun _ hk => hk.2) (.slice Ao23 t556.length co23)) (fun _ hk => hk.2) (.slice Ao24 t559.length co24)) (fun _ h_ => h_.1))))) (Kd.R_lt (by (with_reducible repeat (first | apply Kd.R_alloc | apply Kd.R_drewN | apply Kd.R_drew)); exact (Kd.R_mono (Kd.R_far (p := ⟨gb547, 3, none⟩) (Kd.R_far (p := ⟨gb547, 2, none⟩) (Kd.R_far (p := ⟨gb547, 1, none⟩) (Kd.R_far (p := ⟨gb547, 0, none⟩) (Kd.R_types HO561.out BK547.out (by decide)) (fun _ hk => hk.2) (.int .i64 t554)) (fun _ hk => hk.2) (.int .i64 t555)) (fun _ hk => hk.2) (.slice Ao23 t556.length co23)) (fun _ hk => hk.2) (.slice Ao24 t559.length co24)) (fun _ h_ => h_.1))))) (keep_size (kb2 HK.out GW538.out GW547.out))); have HO573 := ak (Kd.R_lower (Kd.R_new' (Kd.R_new' (Kd.R_new' ho1 (Kd.R_lt (by (with_reducible repeat (first | apply Kd.R_alloc | apply Kd.R_drewN | apply Kd.R_drew)); exact (Kd.R_mono (Kd.R_far (p := ⟨gb547, 3, none⟩) (Kd.R_far (p := ⟨gb547, 2, none⟩) (Kd.R_far (p := ⟨gb547, 1, none⟩) (Kd.R_far (p := ⟨gb547, 0, none⟩) (Kd.R_types HO_3.out BK547.out (by decide)) (fun _ hk => hk.2) (.int .i64 t554)) (fun _ hk => hk.2) (.int .i64 t555)) (fun _ hk => hk.2) (.slice Ao23 t556.length co23)) (fun _ hk => hk.2) (.slice Ao24 t559.length co24)) (fun _ h_ => h_.1))))) (Kd.R_lt (by (with_reducible repeat (first | apply Kd.R_alloc | apply Kd.R_drewN | apply Kd.R_drew)); exact (Kd.R_mono (Kd.R_far (p := ⟨gb547, 3, none⟩) (Kd.R_far (p := ⟨gb547, 2, none⟩) (Kd.R_far (p := ⟨gb547, 1, none⟩) (Kd.R_far (p := ⟨gb547, 0, none⟩) (Kd.R_types HO558.out BK547.out (by decide)) (fun _ hk => hk.2) (.int .i64 t554)) (fun _ hk => hk.2) (.int .i64 t555)) (fun _ hk => hk.2) (.slice Ao23 t556.length co23)) (fun _ hk => hk.2) (.slice Ao24 t559.length co24)) (fun _ h_ => h_.1))))) (Kd.R_lt (by (with_reducible repeat (first | apply Kd.R_alloc | apply Kd.R_drewN | apply Kd.R_drew)); exact (Kd.R_mono (Kd.R_far (p := ⟨gb547, 3, none⟩) (Kd.R_far (p := ⟨gb547, 2, none⟩) (Kd.R_far (p := ⟨gb547, 1, none⟩) (Kd.R_far (p := ⟨gb547, 0, none⟩) (Kd.R_types HO561.out BK547.out (by decide)) (fun _ hk => hk.2) (.int .i64 t554)) (fun _ hk => hk.2) (.int .i64 t555)) (fun _ hk => hk.2) (.slice Ao23 t556.length co23)) (fun _ hk => hk.2) (.slice Ao24 t559.length co24)) (fun _ h_ => h_.1))))) (keep_size (kb2 HK.out GW538.out GW547.out))); replace HO_3 := ak (Kd.R_mono (Kd.R_told (Kd.R_told (Kd.R_old (by (with_reducible repeat (first | apply Kd.R_alloc | apply Kd.R_drewN | apply Kd.R_drew)); exact (Kd.R_mono (Kd.R_far (p := ⟨gb547, 3, none⟩) (Kd.R_far (p := ⟨gb547, 2, none⟩) (Kd.R_far (p := ⟨gb547, 1, none⟩) (Kd.R_far (p := ⟨gb547, 0, none⟩) (Kd.R_types HO_3.out BK547.out (by decide)) (fun _ hk => hk.2) (.int .i64 t554)) (fun _ hk => hk.2) (.int .i64 t555)) (fun _ hk => hk.2) (.slice Ao23 t556.length co23)) (fun _ hk => hk.2) (.slice Ao24 t559.length co24)) (fun _ h_ => h_.1))) hb) (Kd.R_base ho0)) (Kd.R_base ho1)) (fun _ h_ => h_.1)); replace HO558 := ak (Kd.R_mono (Kd.R_told (Kd.R_told (Kd.R_old (by (with_reducible repeat (first | apply Kd.R_alloc | apply Kd.R_drewN | apply Kd.R_drew)); exact (Kd.R_mono (Kd.R_far (p := ⟨gb547, 3, none⟩) (Kd.R_far (p := ⟨gb547, 2, none⟩) (Kd.R_far (p := ⟨gb547, 1, none⟩) (Kd.R_far (p := ⟨gb547, 0, none⟩) (Kd.R_types HO558.out BK547.out (by decide)) (fun _ hk => hk.2) (.int .i64 t554)) (fun _ hk => hk.2) (.int .i64 t555)) (fun _ hk => hk.2) (.slice Ao23 t556.length co23)) (fun _ hk => hk.2) (.slice Ao24 t559.length co24)) (fun _ h_ => h_.1))) hb) (Kd.R_base ho0)) (Kd.R_base ho1)) (fun _ h_ => h_.1)); replace HO561 := ak (Kd.R_mono (Kd.R_told (Kd.R_told (Kd.R_old (by (with_reducible repeat (first | apply Kd.R_alloc | apply Kd.R_drewN | apply Kd.R_drew)); exact (Kd.R_mono (Kd.R_far (p := ⟨gb547, 3, none⟩) (Kd.R_far (p := ⟨gb547, 2, none⟩) (Kd.R_far (p := ⟨gb547, 1, none⟩) (Kd.R_far (p := ⟨gb547, 0, none⟩) (Kd.R_types HO561.out BK547.out (by decide)) (fun _ hk => hk.2) (.int .i64 t554)) (fun _ hk => hk.2) (.int .i64 t555)) (fun _ hk => hk.2) (.slice Ao23 t556.length co23)) (fun _ hk => hk.2) (.slice Ao24 t559.length co24)) (fun _ h_ => h_.1))) hb) (Kd.R_base ho0)) (Kd.R_base ho1)) (fun _ h_ => h_.1)); replace BK538 := ak (blk_below (g := gb538) (o := .cells #[.int .i64 0, .int .i64 0, .slice none 0 0, .slice none 0 0] 28 (0, 0)) (bq BK538.out) hb); replace BK547 := ak (blk_below (g := gb547) (o := .cells #[.int .i64 t554, .int .i64 t555, .slice Ao23 t556.length co23, .slice Ao24 t559.length co24] 28 (0, 0)) (bq BK547.out) hb); replace HK := ak (KeepBut.trans (kb2 HK.out GW538.out GW547.out) (KeepBut.of_below hb g none) (.inl rfl)); replace HB := ak (below_step (bl3 HB.out (IsS78.ge HI0.out) GE538.out GE547.out) hb); replace HI0 := ak (IsS78.below (show IsS78 w0 ((((w21.setCell ⟨gb547, 0, none⟩ (.int .i64 t554)).setCell ⟨gb547, 1, none⟩ (.int .i64 t555)).setCell ⟨gb547, 2, none⟩ (.slice Ao23 t556.length co23)).setCell ⟨gb547, 3, none⟩ (.slice Ao24 t559.length co24)) g s0_0 t552 t553 from is2 HI0.out NB0_538.out NB0_547.out) hb); clear hb ho0 ho1; have hnb28 := NB547_538.out; have hnc28 := NB538_547.out; have hnb29 := NB547_0.out; have hnc29 := NB0_547.out; obtain ⟨hcz30_0, hcz30_1, hcz30_2, hcz30_3, hfz30_0, hfz30_1, hfz30_2, hfz30_3⟩ := b4 BK547.out; obtain ⟨Ao31, co31, eo31⟩ := Kd.R_slice HO570.out; subst eo31; obtain ⟨Ao32, co32, eo32⟩ := Kd.R_slice HO573.out; subst eo32))
     go_meet
     case rel => exact ⟨_, (t566), (t567), (t568), (t571), (.slice Ao31 t568.length co31), (.slice Ao32 t571.length co32), H', ⟨by have := HJ2.out; first | omega | exact Nat.le_refl _⟩, ⟨by (with_reducible repeat (first | apply Kd.R_alloc | apply Kd.R_drewN | apply Kd.R_drew)); exact Kd.R_mono (Kd.R_far (p := ⟨gb547, 3, none⟩) (Kd.R_far (p := ⟨gb547, 2, none⟩) (Kd.R_far (p := ⟨gb547, 1, none⟩) (Kd.R_far (p := ⟨gb547, 0, none⟩) (Kd.R_types HO570.out BK547.out (by decide)) (fun _ hk => hk.2) (.int .i64 t566)) (fun _ hk => hk.2) (.int .i64 t567)) (fun _ hk => hk.2) (.slice Ao31 t568.length co31)) (fun _ hk => hk.2) (.slice Ao32 t571.length co32)) (fun _ hk => hk.1.1.1.1)⟩, ⟨by (with_reducible repeat (first | apply Kd.R_alloc | apply Kd.R_drewN | apply Kd.R_drew)); exact Kd.R_mono (Kd.R_far (p := ⟨gb547, 3, none⟩) (Kd.R_far (p := ⟨gb547, 2, none⟩) (Kd.R_far (p := ⟨gb547, 1, none⟩) (Kd.R_far (p := ⟨gb547, 0, none⟩) (Kd.R_types HO573.out BK547.out (by decide)) (fun _ hk => hk.2) (.int .i64 t566)) (fun _ hk => hk.2) (.int .i64 t567)) (fun _ hk => hk.2) (.slice Ao31 t568.length co31)) (fun _ hk => hk.2) (.slice Ao32 t571.length co32)) (fun _ hk => hk.1.1.1.1)⟩, ⟨by (with_reducible repeat (first | refine blk_drewN ?_ _ | refine blk_drew ?_ | refine blk_alloc ?_ _)); refine blk_far ?_ NB538_547.out _; (with_reducible repeat (first | refine blk_drewN ?_ _ | refine blk_drew ?_ | refine blk_alloc ?_ _)); refine blk_far ?_ NB538_547.out _; (with_reducible repeat (first | refine blk_drewN ?_ _ | refine blk_drew ?_ | refine blk_alloc ?_ _)); refine blk_far ?_ NB538_547.out _; (with_reducible repeat (first | refine blk_drewN ?_ _ | refine blk_drew ?_ | refine blk_alloc ?_ _)); refine blk_far ?_ NB538_547.out _; exact bk BK538.out⟩, ⟨by (with_reducible repeat (first | refine blk_drewN ?_ _ | refine blk_drew ?_ | refine blk_alloc ?_ _)); refine blk_put (cs := #[.int .i64 t566, .int .i64 t567, .slice Ao31 t568.length co31, .slice Ao24 t559.length co24]) ?_ 3 _ rfl; (with_reducible repeat (first | refine blk_drewN ?_ _ | refine blk_drew ?_ | refine blk_alloc ?_ _)); refine blk_put (cs := #[.int .i64 t566, .int .i64 t567, .slice Ao23 t556.length co23, .slice Ao24 t559.length co24]) ?_ 2 _ rfl; (with_reducible repeat (first | refine blk_drewN ?_ _ | refine blk_drew ?_ | refine blk_alloc ?_ _)); refine blk_put (cs := #[.int .i64 t566, .int .i64 t555, .slice Ao23 t556.length co23, .slice Ao24 t559.length co24]) ?_ 1 _ rfl; (with_reducible repeat (first | refine blk_drewN ?_ _ | refine blk_drew ?_ | refine blk_alloc ?_ _)); refine blk_put (cs := #[.int .i64 t554, .int .i64 t555, .slice Ao23 t556.length co23, .slice Ao24 t559.length co24]) ?_ 0 _ rfl; exact bk BK547.out⟩, ⟨by repeat (first | (with_reducible first | exact HI0.out | apply IsS78.alloc | apply IsS78.drewN | apply IsS78.drew | apply IsS78.set_1 | apply IsS78.set_2 | refine IsS78.far ?_ NB0_538.out _ | refine IsS78.far ?_ NB0_547.out _) | exact HI0.out)⟩, ⟨by repeat (first | (with_reducible first | exact HK.out | apply KeepBut.set_ | apply keep_drewN | apply keep_drew | apply keep_alloc | refine keep_far ?_ GW538.out _ | refine keep_far ?_ GW547.out _) | exact HK.out)⟩, ⟨bl3 HB.out (IsS78.ge HI0.out) GE538.out GE547.out⟩⟩
   case rest =>
    clear HC13
    try clear c1
    try clear c2
    try clear p2
    try clear c4
    try clear c5
    try clear c6
    try clear p6
    try clear c7
    try clear c7b0
    try clear c7b1
    try clear c8
    try clear c8b0
    try clear c8b1
    try clear q9
    try clear c15
    try clear c16
    try clear c18
    try clear c25
    try clear c28
    try clear c29
    try clear hcz17_0
    try clear hcz17_1
    try clear hcz17_2
    try clear hcz17_3
    try clear hcz22_0
    try clear hcz22_1
    try clear hcz22_2
    try clear hcz22_3
    try clear hcz30_0
    try clear hcz30_1
    try clear hcz30_2
    try clear hcz30_3
    try clear hfz17_0
    try clear hfz17_1
    try clear hfz17_2
    try clear hfz17_3
    try clear hfz22_0
    try clear hfz22_1
    try clear hfz22_2
    try clear hfz22_3
    try clear hfz30_0
    try clear hfz30_1
    try clear hfz30_2
    try clear hfz30_3
    try clear p2
    try clear q9
    obtain ⟨kq, x548000_12, x548001_12, x548002_12, x548003_12, u548002, u548003, HA, HJ12, HO_548002, HO_548003, BK538, BK547, HI0, HK, HB⟩ := hcut
    cases kq with
    | zero => exact absurd HA.out (by simp [spec_l1Cur_segmented.j1])
    | succ kj12 =>
     have H := HA.out
     clear HA
     simp only [spec_l1Cur_segmented.j1] at H
     replace H := Option.bind_eq_some_iff.mp H
     obtain ⟨⟨t575, t576, t577⟩, A330, H⟩ := H
     try dsimp only at H
     have A33 := ak A330
     clear A330
     by_cases c34 : t575 = 0
     ·rw [if_pos c34] at H
      have c34b0 : (t575 == 0) = true := beq_iff_eq.mpr c34
      have c34b1 : (t575 != 0) = false := bne_eq_false_iff_eq.mpr c34
      clear c34
      obtain ⟨y578, hy578⟩ : ∃ y_ : List Int, y_ = (([99, 100, 2000, 2001] : List Int)) := ⟨_, rfl⟩
      replace H : ((spec_l1Cur_among.f s0_0 t576 t577 y578).bind fun bt581 => (some (x548000_12, bt581.1, x548002_12, x548003_12, bt581.2.1, bt581.2.2))) = some (r1, r2, r3, r4, r5, r6) := by first | (rw [hy578]; with_reducible exact H) | (have H2_ := (Option.bind_some _ _).symm.trans H; rw [hy578]; with_reducible exact H2_) | (have H2_ := (Option.bind_some _ _).symm.trans H; with_reducible exact H2_) | with_reducible exact H | (rw [hy578]; exact H) | exact H
      have Ny578 := ak hy578
      clear hy578
      replace H := Option.bind_eq_some_iff.mp H
      obtain ⟨⟨t581, t582, t583⟩, A350, H⟩ := H
      try dsimp only at H
      have A35 := ak A350
      clear A350
      simp only [Option.some.injEq, Prod.mk.injEq] at H
      obtain ⟨rfl, rfl, rfl, rfl, rfl, rfl⟩ := H
      go_wp2_with (first | (refine gL 47 Try.func47 (some 33) #[.pointer (some ⟨g, 0, none⟩), .int .i64 40] ?_; (with_reducible refine (spec_l1Cur_pick.calls g s0_0 t552 t553 40 t575 t576 t577 w0 _ ?side1 ?side2 A33.out).mono ?_); (case side1 => exact is2 HI0.out NB0_538.out NB0_547.out); (case side2 => exact bl3 HB.out (IsS78.ge HI0.out) GE538.out GE547.out); rintro e w36 ⟨rfl, hi, hb, hk⟩; refine ⟨_, rfl, ?_⟩; replace HO_548002 := ak (Kd.R_mono (Kd.R_keep (IsS78.apart (show IsS78 w0 _ g s0_0 t552 t553 from is2 HI0.out NB0_538.out NB0_547.out) (kr HO_548002.out) (by decide)) hk (fun _ h => h.2)) (fun _ h => h.1)); replace HO_548003 := ak (Kd.R_mono (Kd.R_keep (IsS78.apart (show IsS78 w0 _ g s0_0 t552 t553 from is2 HI0.out NB0_538.out NB0_547.out) (kr HO_548003.out) (by decide)) hk (fun _ h => h.2)) (fun _ h => h.1)); replace BK538 := ak (KeepBut.blk hk (g' := gb538) (o := .cells #[.int .i64 0, .int .i64 0, .slice none 0 0, .slice none 0 0] 28 (0, 0)) (bk BK538.out) NB538_0.out (by simp)); replace BK547 := ak (KeepBut.blk hk (g' := gb547) (o := .cells #[.int .i64 x548000_12, .int .i64 x548001_12, u548002, u548003] 28 (0, 0)) (bk BK547.out) NB547_0.out (by simp)); replace HK := ak (KeepBut.trans (kb2 HK.out GW538.out GW547.out) hk (.inl rfl)); replace HB := ak hb; replace HI0 := ak hi; clear hb hk hi) | ((with_reducible refine gate_dst (N := 37) rfl ?_); refine Kd.R_lit (Kd.int .i64) _ 3 ?hg (N := 37) ?hd (xs := ([99, 100, 2000, 2001] : List Int)) (inner := [.int .i64 99, .int .i64 100, .int .i64 2000, .int .i64 2001]) (ok := fun _ => True) (okp := fun _ => True) ?hr ?hp (fun _ hk => hk) trivial (Below.refl _ _) (Nat.le_refl _) (by simp) ?_; (case hd => rfl); (case hg => rfl); (case hr => first | (go_simp; done) | (go_simp; rfl)); (case hp => exact (Reps.one (show Kd.M (Kd.int .i64) _ _ _ 99 [.int .i64 99] from rfl) (Reps.one (show Kd.M (Kd.int .i64) _ _ _ 100 [.int .i64 100] from rfl) (Reps.one (show Kd.M (Kd.int .i64) _ _ _ 2000 [.int .i64 2000] from rfl) (Reps.one (show Kd.M (Kd.int .i64) _ _ _ 2001 [.int .i64 2001] from rfl) (Reps.none _ _)))))); intro v579 w37 ho38 hb hg_ hnew_; clear hg_ hnew_; (first | rw [← Ny578.out] at ho38 | (simp only [Int.reduceToNat] at ho38; rw [← Ny578.out] at ho38)); replace HO_548002 := ak (Kd.R_below (kr HO_548002.out) hb); replace HO_548003 := ak (Kd.R_below (kr HO_548003.out) hb); have HO580 := ak (Kd.R_lower ho38 (keep_size (kb2 HK.out GW538.out GW547.out))); replace BK538 := ak (blk_below (bk BK538.out) hb); replace BK547 := ak (blk_below (bk BK547.out) hb); replace HK := ak (KeepBut.trans (kb2 HK.out GW538.out GW547.out) (KeepBut.of_below hb g none) (.inl rfl)); replace HB := ak (below_step (bl3 HB.out (IsS78.ge HI0.out) GE538.out GE547.out) hb); replace HI0 := ak (IsS78.below (is2 HI0.out NB0_538.out NB0_547.out) hb); clear hb ho38; obtain ⟨Ao39, co39, eo39⟩ := Kd.R_slice HO580.out; subst eo39) | (refine gL 84 Try.func84 (some 38) #[.pointer (some ⟨g, 0, none⟩), .slice Ao39 y578.length co39] ?_; (with_reducible refine (spec_l1Cur_among.calls g s0_0 t576 t577 _ _ y578 t581 t582 t583 w0 _ ?side1 ?side2 ?side3 ?side4 ?side5 A35.out).mono ?_); (case side1 => exact is2 HI0.out NB0_538.out NB0_547.out); (case side2 => exact bl3 HB.out (IsS78.ge HI0.out) GE538.out GE547.out); (case side3 => exact kc (Kd.R_reads' HO580.out).2.2); (case side4 => exact (Kd.R_reads' HO580.out).2.1); (case side5 => exact far_slice (IsS78.own_ne HI0.out HO580.out (by decide))); rintro e w40 ⟨rfl, hi, hb, hk⟩; refine ⟨_, rfl, ?_⟩; replace HO_548002 := ak (Kd.R_mono (Kd.R_keep (IsS78.apart (show IsS78 w0 _ g s0_0 t576 t577 from is2 HI0.out NB0_538.out NB0_547.out) (kr HO_548002.out) (by decide)) hk (fun _ h => h.2)) (fun _ h => h.1)); replace HO_548003 := ak (Kd.R_mono (Kd.R_keep (IsS78.apart (show IsS78 w0 _ g s0_0 t576 t577 from is2 HI0.out NB0_538.out NB0_547.out) (kr HO_548003.out) (by decide)) hk (fun _ h => h.2)) (fun _ h => h.1)); replace BK538 := ak (KeepBut.blk hk (g' := gb538) (o := .cells #[.int .i64 0, .int .i64 0, .slice none 0 0, .slice none 0 0] 28 (0, 0)) (bk BK538.out) NB538_0.out (by simp)); replace BK547 := ak (KeepBut.blk hk (g' := gb547) (o := .cells #[.int .i64 x548000_12, .int .i64 x548001_12, u548002, u548003] 28 (0, 0)) (bk BK547.out) NB547_0.out (by simp)); replace HO580 := ak (Kd.R_mono (Kd.R_keep (IsS78.apart (show IsS78 w0 _ g s0_0 t576 t577 from is2 HI0.out NB0_538.out NB0_547.out) (kr HO580.out) (by decide)) hk (fun _ h => h.2)) (fun _ h => h.1)); replace HK := ak (KeepBut.trans (kb2 HK.out GW538.out GW547.out) hk (.inl rfl)); replace HB := ak hb; replace HI0 := ak hi; clear hb hk hi; have hnb41 := NB547_538.out; have hnc41 := NB538_547.out; have hnb42 := NB547_0.out; have hnc42 := NB0_547.out; obtain ⟨hcz43_0, hcz43_1, hcz43_2, hcz43_3, hfz43_0, hfz43_1, hfz43_2, hfz43_3⟩ := b4 BK547.out; have hnb44 := NB538_0.out; have hnc44 := NB0_538.out; obtain ⟨hcz45_0, hcz45_1, hcz45_2, hcz45_3, hfz45_0, hfz45_1, hfz45_2, hfz45_3⟩ := b4 BK538.out; obtain ⟨Ao46, co46, eo46⟩ := Kd.R_slice HO_548002.out; subst eo46; obtain ⟨Ao47, co47, eo47⟩ := Kd.R_slice HO_548003.out; subst eo47))
      refine bodyPost_ret (results_cell_row rfl _ _ gb538 28 #[.int .i64 x548000_12, .int .i64 t581, .slice Ao46 x548002_12.length co46, .slice Ao47 x548003_12.length co47] (0, 0) _ rfl (bq BK538.out) Try.underlying28 rfl (by kernel_rfl)) rfl ?_
      exact ⟨_, _, by first | rfl | (simp [errW_none, errW_some] <;> rfl) | (simp [*, errW_none, errW_some] <;> rfl), by (with_reducible repeat (first | apply Kd.R_alloc | apply Kd.R_drewN | apply Kd.R_drew)); exact Kd.R_mono (Kd.R_far (p := ⟨gb538, 3, none⟩) (Kd.R_far (p := ⟨gb538, 2, none⟩) (Kd.R_far (p := ⟨gb538, 1, none⟩) (Kd.R_far (p := ⟨gb538, 0, none⟩) (Kd.R_far (p := ⟨gb547, 1, none⟩) (Kd.R_types (Kd.R_types HO_548002.out BK547.out (by decide)) BK538.out (by decide)) (fun _ hk => hk.1.2) (.int .i64 t581)) (fun _ hk => hk.2) (.int .i64 x548000_12)) (fun _ hk => hk.2) (.int .i64 t581)) (fun _ hk => hk.2) (.slice Ao46 x548002_12.length co46)) (fun _ hk => hk.2) (.slice Ao47 x548003_12.length co47)) (fun _ hk => hk.1.1), by (with_reducible repeat (first | apply Kd.R_alloc | apply Kd.R_drewN | apply Kd.R_drew)); exact Kd.R_mono (Kd.R_far (p := ⟨gb538, 3, none⟩) (Kd.R_far (p := ⟨gb538, 2, none⟩) (Kd.R_far (p := ⟨gb538, 1, none⟩) (Kd.R_far (p := ⟨gb538, 0, none⟩) (Kd.R_far (p := ⟨gb547, 1, none⟩) (Kd.R_types (Kd.R_types HO_548003.out BK547.out (by decide)) BK538.out (by decide)) (fun _ hk => hk.1.2) (.int .i64 t581)) (fun _ hk => hk.2) (.int .i64 x548000_12)) (fun _ hk => hk.2) (.int .i64 t581)) (fun _ hk => hk.2) (.slice Ao46 x548002_12.length co46)) (fun _ hk => hk.2) (.slice Ao47 x548003_12.length co47)) (fun _ hk => hk.1.1), by repeat (first | (with_reducible first | exact HI0.out | apply IsS78.alloc | apply IsS78.drewN | apply IsS78.drew | apply IsS78.set_1 | apply IsS78.set_2 | refine IsS78.far ?_ NB0_538.out _ | refine IsS78.far ?_ NB0_547.out _) | exact HI0.out), bl3 HB.out (IsS78.ge HI0.out) GE538.out GE547.out, by repeat (first | (with_reducible first | exact HK.out | apply KeepBut.set_ | apply keep_drewN | apply keep_drew | apply keep_alloc | refine keep_far ?_ GW538.out _ | refine keep_far ?_ GW547.out _) | exact HK.out)⟩
     ·rw [if_neg c34] at H
      have c34b0 : (t575 == 0) = false := beq_eq_false_iff_ne.mpr c34
      have c34b1 : (t575 != 0) = true := bne_iff_ne.mpr c34
      by_cases c48 : t575 = 1
      ·rw [if_pos c48] at H
       have c48b0 : (t575 == 1) = true := beq_iff_eq.mpr c48
       have c48b1 : (t575 != 1) = false := bne_eq_false_iff_eq.mpr c48
       clear c48
       replace H := Option.bind_eq_some_iff.mp H
       obtain ⟨⟨t584, t585, t586, t587⟩, A490, H⟩ := H
       try dsimp only at H
       have A49 := ak A490
       clear A490
       by_cases c50 : x548002_12.length < 4398046511104
       ·rw [if_pos c50] at H
        have LMc50 := ak c50
        clear c50
        obtain ⟨y588, hy588⟩ : ∃ y_ : List (S45), y_ = (x548002_12 ++ [(⟨t584, t585⟩ : S45)]) := ⟨_, rfl⟩
        replace H : (some (x548000_12, x548001_12, y588, x548003_12, t586, t587)) = some (r1, r2, r3, r4, r5, r6) := by first | (rw [hy588]; with_reducible exact H) | (have H2_ := (Option.bind_some _ _).symm.trans H; rw [hy588]; with_reducible exact H2_) | (have H2_ := (Option.bind_some _ _).symm.trans H; with_reducible exact H2_) | with_reducible exact H | (rw [hy588]; exact H) | exact H
        have Ny588 := ak hy588
        clear hy588
        simp only [Option.some.injEq, Prod.mk.injEq] at H
        obtain ⟨rfl, rfl, rfl, rfl, rfl, rfl⟩ := H
        try go_wp2_with (first | (refine gL 47 Try.func47 (some 33) #[.pointer (some ⟨g, 0, none⟩), .int .i64 40] ?_; (with_reducible refine (spec_l1Cur_pick.calls g s0_0 t552 t553 40 t575 t576 t577 w0 _ ?side1 ?side2 A33.out).mono ?_); (case side1 => exact is2 HI0.out NB0_538.out NB0_547.out); (case side2 => exact bl3 HB.out (IsS78.ge HI0.out) GE538.out GE547.out); rintro e w51 ⟨rfl, hi, hb, hk⟩; refine ⟨_, rfl, ?_⟩; replace HO_548002 := ak (Kd.R_mono (Kd.R_keep (IsS78.apart (show IsS78 w0 _ g s0_0 t552 t553 from is2 HI0.out NB0_538.out NB0_547.out) (kr HO_548002.out) (by decide)) hk (fun _ h => h.2)) (fun _ h => h.1)); replace HO_548003 := ak (Kd.R_mono (Kd.R_keep (IsS78.apart (show IsS78 w0 _ g s0_0 t552 t553 from is2 HI0.out NB0_538.out NB0_547.out) (kr HO_548003.out) (by decide)) hk (fun _ h => h.2)) (fun _ h => h.1)); replace BK538 := ak (KeepBut.blk hk (g' := gb538) (o := .cells #[.int .i64 0, .int .i64 0, .slice none 0 0, .slice none 0 0] 28 (0, 0)) (bk BK538.out) NB538_0.out (by simp)); replace BK547 := ak (KeepBut.blk hk (g' := gb547) (o := .cells #[.int .i64 x548000_12, .int .i64 x548001_12, u548002, u548003] 28 (0, 0)) (bk BK547.out) NB547_0.out (by simp)); replace HK := ak (KeepBut.trans (kb2 HK.out GW538.out GW547.out) hk (.inl rfl)); replace HB := ak hb; replace HI0 := ak hi; clear hb hk hi))
        replace HO_548002 := ak (Kd.R_drew HO_548002.out)
        replace HO_548003 := ak (Kd.R_drew HO_548003.out)
        replace BK538 := ak (blk_drew BK538.out)
        replace BK547 := ak (blk_drew BK547.out)
        replace HI0 := ak (IsS78.drew HI0.out)
        replace HK := ak (keep_drew HK.out)
        replace HB := ak (below_drew1 HB.out)
        refine start_ (n := 8) (S := fun w' => w'.cell? ⟨gb547, 0, none⟩ = some (.int .i64 x548000_12) ∧ w'.cell? ⟨gb547, 1, none⟩ = some (.int .i64 x548001_12) ∧ w'.cell? ⟨gb547, 2, none⟩ = some (u548002) ∧ w'.cell? ⟨gb547, 3, none⟩ = some (u548003)) (ds := [7]) #[false, false, false, false, false, false, false, false] (by kernel_rfl) rfl rfl ⟨(blk_cell BK547.out 0).trans rfl, (blk_cell BK547.out 1).trans rfl, (blk_cell BK547.out 2).trans rfl, (blk_cell BK547.out 3).trans rfl⟩ (fun hHeld => ?_); refine with_tabW spec_l1Cur_segmented.tab12 spec_l1Cur_segmented.bits12 (fun HT_ HW_ => ?_)
        generalize w51.drew = w52 at HO_548002 HO_548003 BK538 BK547 HI0 HK HB hHeld ⊢
        refine pu 0 (some 42) HT_ ?_
        refine pu 2 (some 44) HT_ ?_
        refine tk 1 (some 43) HT_ HW_ hHeld ?_
        refine on 3 (some 45) HT_ (fun K hK => ?_)
        refine gO Try.func64 #[.pointer (some ⟨g, 0, none⟩)] ?_
        with_reducible refine (spec_l1Cur_entry.calls kj12 g s0_0 t576 t577 t584 t585 t586 t587 w0 _ ?side1 ?side2 A49.out).mono ?_
        (case side1 => exact is2 HI0.out NB0_538.out NB0_547.out)
        (case side2 => exact bl3 HB.out (IsS78.ge HI0.out) GE538.out GE547.out)
        rintro e w53 ⟨rfl, hi, hb, hk⟩
        refine ⟨_, rfl, ?_⟩
        replace HO_548002 := ak (Kd.R_mono (Kd.R_keep (IsS78.apart (show IsS78 w0 _ g s0_0 t576 t577 from is2 HI0.out NB0_538.out NB0_547.out) (kr HO_548002.out) (by decide)) hk (fun _ h => h.2)) (fun _ h => h.1))
        replace HO_548003 := ak (Kd.R_mono (Kd.R_keep (IsS78.apart (show IsS78 w0 _ g s0_0 t576 t577 from is2 HI0.out NB0_538.out NB0_547.out) (kr HO_548003.out) (by decide)) hk (fun _ h => h.2)) (fun _ h => h.1))
        replace BK538 := ak (KeepBut.blk hk (g' := gb538) (o := .cells #[.int .i64 0, .int .i64 0, .slice none 0 0, .slice none 0 0] 28 (0, 0)) (bk BK538.out) NB538_0.out (by simp))
        replace BK547 := ak (KeepBut.blk hk (g' := gb547) (o := .cells #[.int .i64 x548000_12, .int .i64 x548001_12, u548002, u548003] 28 (0, 0)) (bk BK547.out) NB547_0.out (by simp))
        replace HK := ak (KeepBut.trans (kb2 HK.out GW538.out GW547.out) hk (.inl rfl))
        replace HB := ak hb
        replace HI0 := ak hi
        clear hb
        (try clear hb2)
        clear hk
        clear hi
        refine hK.out _ _ ⟨(blk_cell BK547.out 0).trans rfl, (blk_cell BK547.out 1).trans rfl, (blk_cell BK547.out 2).trans rfl, (blk_cell BK547.out 3).trans rfl⟩ (fun hHeld => ?_)
        clear hK K
        refine norm_ (a' := ?_) ?_ ?_
        rotate_left
        ·show Act.put _ (some 45) _ = _
         simp only [Act.put, List.setIfInBounds_toArray, List.set_cons_zero, List.set_cons_succ, i64_w, i32_w]
         rfl
        refine on 4 (some 46) HT_ (fun K hK => ?_)
        refine value_ (w1 := ?_) (v := ?_) (by rfl) rfl ?_ ?_
        rotate_left 2
        ·go_simp
         constructor
         ·rfl
         ·rfl
        refine hK.out _ _ ⟨(blk_cell (blk_alloc BK547.out _) 0).trans rfl, (blk_cell (blk_alloc BK547.out _) 1).trans rfl, (blk_cell (blk_alloc BK547.out _) 2).trans rfl, (blk_cell (blk_alloc BK547.out _) 3).trans rfl⟩ (fun hHeld => ?_)
        clear hK K
        refine norm_ (a' := ?_) ?_ ?_
        rotate_left
        ·show Act.put _ (some 46) _ = _
         simp only [Act.put, List.setIfInBounds_toArray, List.set_cons_zero, List.set_cons_succ, i64_w, i32_w]
         rfl
        refine on 5 (some 47) HT_ (fun K hK => ?_)
        refine Kd.R_append_step k45 w.heap.size (by rfl) (.tmp 43) (.tmp 46) 26 45 (.agg #[(.string ⟨#[]⟩), (.string ⟨#[]⟩)]) 32 rfl Try.underlying26 info45 rfl (by decide) (by omega) u548002 x548002_12 (⟨t584, t585⟩ : S45) [.string t584, .string t585] (fun k_ => some k_ ≠ (u548003 : Value).ownBlock) (fun _ => False) rfl rfl ?aP (fun _ hk => hk.elim) ?aF ?aO (Below.refl _ _) ?aS ?aL ?_
        (case aP => exact k45_mkM _ _ _ (⟨t584, t585⟩ : S45))
        (case aF => exact (fun k_ hk => Kd.fresh' (Kd.R_lt (kr HO_548003.out)) k_ hk))
        (case aO => exact (kr HO_548002.out))
        (case aS => exact (keep_size (kb2 HK.out GW538.out GW547.out)))
        (case aL => have := LMc50.out; omega)
        intro v589 w54 ho hb hg hat
        rw [← Ny588.out] at ho
        replace HO_548003 := ak (Kd.R_after (ok := (fun _ => True)) (by (with_reducible repeat (first | apply Kd.R_alloc | apply Kd.R_drewN | apply Kd.R_drew)); exact Kd.R_mono HO_548003.out (fun _ hk => ⟨trivial, hk⟩)) hg hat)
        replace BK538 := ak (blk_grown (bk BK538.out) hg (Kd.R_ne HO_548002.out BK538.out (by decide)))
        replace BK547 := ak (blk_grown (bk BK547.out) hg (Kd.R_ne HO_548002.out BK547.out (by decide)))
        replace HB := ak (below_weaken (bl3 HB.out (IsS78.ge HI0.out) GE538.out GE547.out) HL.out hb)
        replace HI0 := ak (IsS78.grown (is2 HI0.out NB0_538.out NB0_547.out) hg (IsS78.own_ne HI0.out HO_548002.out (by decide)))
        replace HK := ak (KeepBut.trans (kb2 HK.out GW538.out GW547.out) (KeepBut.of_grown hg g) (Kd.R_base2 HO_548002.out))
        have HO590 := ak ho
        clear HO_548002
        clear ho hb hg hat
        obtain ⟨Ao55, co55, eo55⟩ := Kd.R_slice HO590.out
        (first | subst eo55 | (injection eo55 with f1_ f2_ f3_; have f4_ := f1_.symm; have f5_ := f3_.symm; clear f1_ f2_ f3_; subst f4_; subst f5_))
        refine hK.out _ _ ⟨(blk_cell BK547.out 0).trans rfl, (blk_cell BK547.out 1).trans rfl, (blk_cell BK547.out 2).trans rfl, (blk_cell BK547.out 3).trans rfl⟩ (fun hHeld => ?_)
        clear hK K
        refine norm_ (a' := ?_) ?_ ?_
        rotate_left
        ·show Act.put _ (some 47) _ = _
         simp only [Act.put, List.setIfInBounds_toArray, List.set_cons_zero, List.set_cons_succ, i64_w, i32_w]
         rfl
        refine pu 6 (some 48) HT_ ?_
        refine last_ (i := 7) (N := none) #[true, true, true, true, true, true, true, true] rfl rfl (one_of HT_.out (by kernel_rfl)) (by decide) (fun K hK => ?_)
        have hs56 := bc2 BK547.out
        have hfs56 := blk_frozen BK547.out 2
        have hns56_0 := NB538_547.out
        have hms56_0 := NB547_538.out
        refine skip_ (w1 := ?_) (by rfl) rfl ?_ ?_
        rotate_left
        ·go_simp
         rfl
        refine hK.out _ _ ?_
        clear hK K
        refine done_ (done_of HT_.out (by kernel_rfl)) ?_
        have hnb57 := NB547_538.out
        have hnc57 := NB538_547.out
        have hnb58 := NB547_0.out
        have hnc58 := NB0_547.out
        obtain ⟨hcz59_0, hcz59_1, hcz59_2, hcz59_3, hfz59_0, hfz59_1, hfz59_2, hfz59_3⟩ := b4 BK547.out
        have hnb60 := NB538_0.out
        have hnc60 := NB0_538.out
        obtain ⟨hcz61_0, hcz61_1, hcz61_2, hcz61_3, hfz61_0, hfz61_1, hfz61_2, hfz61_3⟩ := b4 BK538.out
        obtain ⟨Ao62, co62, eo62⟩ := Kd.R_slice HO_548003.out
        subst eo62
        try go_wp2
        refine bodyPost_ret (results_cell_row rfl _ _ gb538 28 #[.int .i64 x548000_12, .int .i64 x548001_12, .slice Ao55 y588.length co55, .slice Ao62 x548003_12.length co62] (0, 0) _ rfl (bq BK538.out) Try.underlying28 rfl (by kernel_rfl)) rfl ?_
        exact ⟨_, _, by first | rfl | (simp [errW_none, errW_some] <;> rfl) | (simp [*, errW_none, errW_some] <;> rfl), by (with_reducible repeat (first | apply Kd.R_alloc | apply Kd.R_drewN | apply Kd.R_drew)); exact Kd.R_mono (Kd.R_far (p := ⟨gb538, 3, none⟩) (Kd.R_far (p := ⟨gb538, 2, none⟩) (Kd.R_far (p := ⟨gb538, 1, none⟩) (Kd.R_far (p := ⟨gb538, 0, none⟩) (Kd.R_far (p := ⟨gb547, 2, none⟩) (Kd.R_types (Kd.R_types HO590.out BK547.out (by decide)) BK538.out (by decide)) (fun _ hk => hk.1.2) (.slice Ao55 y588.length co55)) (fun _ hk => hk.2) (.int .i64 x548000_12)) (fun _ hk => hk.2) (.int .i64 x548001_12)) (fun _ hk => hk.2) (.slice Ao55 y588.length co55)) (fun _ hk => hk.2) (.slice Ao62 x548003_12.length co62)) (fun _ hk => hk.1.1), by (with_reducible repeat (first | apply Kd.R_alloc | apply Kd.R_drewN | apply Kd.R_drew)); exact Kd.R_mono (Kd.R_far (p := ⟨gb538, 3, none⟩) (Kd.R_far (p := ⟨gb538, 2, none⟩) (Kd.R_far (p := ⟨gb538, 1, none⟩) (Kd.R_far (p := ⟨gb538, 0, none⟩) (Kd.R_far (p := ⟨gb547, 2, none⟩) (Kd.R_types (Kd.R_types HO_548003.out BK547.out (by decide)) BK538.out (by decide)) (fun _ hk => hk.1.2) (.slice Ao55 y588.length co55)) (fun _ hk => hk.2) (.int .i64 x548000_12)) (fun _ hk => hk.2) (.int .i64 x548001_12)) (fun _ hk => hk.2) (.slice Ao55 y588.length co55)) (fun _ hk => hk.2) (.slice Ao62 x548003_12.length co62)) (fun _ hk => hk.1.1.2), by repeat (first | (with_reducible first | exact HI0.out | apply IsS78.alloc | apply IsS78.drewN | apply IsS78.drew | apply IsS78.set_1 | apply IsS78.set_2 | refine IsS78.far ?_ NB0_538.out _ | refine IsS78.far ?_ NB0_547.out _) | exact HI0.out), bl3 HB.out (IsS78.ge HI0.out) GE538.out GE547.out, by repeat (first | (with_reducible first | exact HK.out | apply KeepBut.set_ | apply keep_drewN | apply keep_drew | apply keep_alloc | refine keep_far ?_ GW538.out _ | refine keep_far ?_ GW547.out _) | exact HK.out)⟩
       ·rw [if_neg c50] at H
        exact absurd H (by simp)
      ·rw [if_neg c48] at H
       have c48b0 : (t575 == 1) = false := beq_eq_false_iff_ne.mpr c48
       have c48b1 : (t575 != 1) = true := bne_iff_ne.mpr c48
       simp only [Option.some.injEq, Prod.mk.injEq] at H
       obtain ⟨rfl, rfl, rfl, rfl, rfl, rfl⟩ := H
       go_wp2_with (first | (refine gL 47 Try.func47 (some 33) #[.pointer (some ⟨g, 0, none⟩), .int .i64 40] ?_; (with_reducible refine (spec_l1Cur_pick.calls g s0_0 t552 t553 40 t575 t576 t577 w0 _ ?side1 ?side2 A33.out).mono ?_); (case side1 => exact is2 HI0.out NB0_538.out NB0_547.out); (case side2 => exact bl3 HB.out (IsS78.ge HI0.out) GE538.out GE547.out); rintro e w63 ⟨rfl, hi, hb, hk⟩; refine ⟨_, rfl, ?_⟩; replace HO_548002 := ak (Kd.R_mono (Kd.R_keep (IsS78.apart (show IsS78 w0 _ g s0_0 t552 t553 from is2 HI0.out NB0_538.out NB0_547.out) (kr HO_548002.out) (by decide)) hk (fun _ h => h.2)) (fun _ h => h.1)); replace HO_548003 := ak (Kd.R_mono (Kd.R_keep (IsS78.apart (show IsS78 w0 _ g s0_0 t552 t553 from is2 HI0.out NB0_538.out NB0_547.out) (kr HO_548003.out) (by decide)) hk (fun _ h => h.2)) (fun _ h => h.1)); replace BK538 := ak (KeepBut.blk hk (g' := gb538) (o := .cells #[.int .i64 0, .int .i64 0, .slice none 0 0, .slice none 0 0] 28 (0, 0)) (bk BK538.out) NB538_0.out (by simp)); replace BK547 := ak (KeepBut.blk hk (g' := gb547) (o := .cells #[.int .i64 x548000_12, .int .i64 x548001_12, u548002, u548003] 28 (0, 0)) (bk BK547.out) NB547_0.out (by simp)); replace HK := ak (KeepBut.trans (kb2 HK.out GW538.out GW547.out) hk (.inl rfl)); replace HB := ak hb; replace HI0 := ak hi; clear hb hk hi; have hnb64 := NB547_538.out; have hnc64 := NB538_547.out; have hnb65 := NB547_0.out; have hnc65 := NB0_547.out; obtain ⟨hcz66_0, hcz66_1, hcz66_2, hcz66_3, hfz66_0, hfz66_1, hfz66_2, hfz66_3⟩ := b4 BK547.out; have hnb67 := NB538_0.out; have hnc67 := NB0_538.out; obtain ⟨hcz68_0, hcz68_1, hcz68_2, hcz68_3, hfz68_0, hfz68_1, hfz68_2, hfz68_3⟩ := b4 BK538.out; obtain ⟨Ao69, co69, eo69⟩ := Kd.R_slice HO_548002.out; subst eo69; obtain ⟨Ao70, co70, eo70⟩ := Kd.R_slice HO_548003.out; subst eo70))
       refine bodyPost_ret (results_cell_row rfl _ _ gb538 28 #[.int .i64 x548000_12, .int .i64 x548001_12, .slice Ao69 x548002_12.length co69, .slice Ao70 x548003_12.length co70] (0, 0) _ rfl (bq BK538.out) Try.underlying28 rfl (by kernel_rfl)) rfl ?_
       exact ⟨_, _, by first | rfl | (simp [errW_none, errW_some] <;> rfl) | (simp [*, errW_none, errW_some] <;> rfl), by (with_reducible repeat (first | apply Kd.R_alloc | apply Kd.R_drewN | apply Kd.R_drew)); exact Kd.R_mono (Kd.R_far (p := ⟨gb538, 3, none⟩) (Kd.R_far (p := ⟨gb538, 2, none⟩) (Kd.R_far (p := ⟨gb538, 1, none⟩) (Kd.R_far (p := ⟨gb538, 0, none⟩) (Kd.R_types HO_548002.out BK538.out (by decide)) (fun _ hk => hk.2) (.int .i64 x548000_12)) (fun _ hk => hk.2) (.int .i64 x548001_12)) (fun _ hk => hk.2) (.slice Ao69 x548002_12.length co69)) (fun _ hk => hk.2) (.slice Ao70 x548003_12.length co70)) (fun _ hk => hk.1), by (with_reducible repeat (first | apply Kd.R_alloc | apply Kd.R_drewN | apply Kd.R_drew)); exact Kd.R_mono (Kd.R_far (p := ⟨gb538, 3, none⟩) (Kd.R_far (p := ⟨gb538, 2, none⟩) (Kd.R_far (p := ⟨gb538, 1, none⟩) (Kd.R_far (p := ⟨gb538, 0, none⟩) (Kd.R_types HO_548003.out BK538.out (by decide)) (fun _ hk => hk.2) (.int .i64 x548000_12)) (fun _ hk => hk.2) (.int .i64 x548001_12)) (fun _ hk => hk.2) (.slice Ao69 x548002_12.length co69)) (fun _ hk => hk.2) (.slice Ao70 x548003_12.length co70)) (fun _ hk => hk.1), by repeat (first | (with_reducible first | exact HI0.out | apply IsS78.alloc | apply IsS78.drewN | apply IsS78.drew | apply IsS78.set_1 | apply IsS78.set_2 | refine IsS78.far ?_ NB0_538.out _ | refine IsS78.far ?_ NB0_547.out _) | exact HI0.out), bl3 HB.out (IsS78.ge HI0.out) GE538.out GE547.out, by repeat (first | (with_reducible first | exact HK.out | apply KeepBut.set_ | apply keep_drewN | apply keep_drew | apply keep_alloc | refine keep_far ?_ GW538.out _ | refine keep_far ?_ GW547.out _) | exact HK.out)⟩

/-! ### spec_DrawPutEntry: function 37 -/
def spec_DrawPutEntry.f (k : Nat) (l0 : List Int) : Option (Int × Int × (List (S45)) × (List (S45)) × ByteArray × ByteArray) := (spec_l1Cur_segmented.f k l0 0 0).bind fun bt594 => ((spec_l1Cur_entry.f k l0 bt594.2.2.2.2.1 bt594.2.2.2.2.2).bind fun bt604 => (some (bt594.1, bt594.2.1, bt594.2.2.1, bt594.2.2.2.1, bt604.1, bt604.2.1)))
theorem spec_DrawPutEntry.mono : ∀ a0 k, LeO (spec_DrawPutEntry.f k a0) (spec_DrawPutEntry.f (k + 1) a0) := by
 intro a0 k
 unfold spec_DrawPutEntry.f
 repeat' first
   | (with_reducible exact spec_l1Cur_entry.mono _ _ _ _)
   | (with_reducible exact spec_l1Cur_segmented.mono _ _ _ _)
   | (with_reducible exact LeO.refl _)
   | (with_reducible exact LeO.none _)
   | (with_reducible refine LeO.ite ?_ ?_)
   | (with_reducible refine LeO.bind ?_ (fun _ => ?_))
   | exact spec_l1Cur_entry.mono _ _ _ _
   | exact spec_l1Cur_segmented.mono _ _ _ _
   | exact LeO.none _
   | refine LeO.ite ?_ ?_
   | refine LeO.bind ?_ (fun _ => ?_)
set_option maxHeartbeats 8000000 in
set_option maxRecDepth 100000 in
theorem spec_DrawPutEntry.calls (k : Nat) (A0 : Option Addr) (c0 : Nat) (l0 : List Int) (r1 : Int) (r2 : Int) (r3 : List (S45)) (r4 : List (S45)) (r5 : ByteArray) (r6 : ByteArray) (w : World) (hr0 : Kd.C (Kd.int .u8) w A0 l0.length l0) (hc0 : l0.length ≤ c0) (h : spec_DrawPutEntry.f k l0 = some (r1, r2, r3, r4, r5, r6)) :
  Calls Try.prog 37 #[.slice A0 l0.length c0] w fun e w' => ∃ v2_ v3_ : Value, e = .returned (.tuple #[.agg #[.int .i64 r1, .int .i64 r2, v2_, v3_], .agg #[.string r5, .string r6]]) ∧ Kd.R k45 45 w' w.heap.size (fun k_ => some k_ ≠ (v3_ : Value).ownBlock) v2_ r3 ∧ Kd.R k45 45 w' w.heap.size (fun k_ => some k_ ≠ (v2_ : Value).ownBlock) v3_ r4 ∧ Below w.heap.size w w' := by
 have hu28 := Try.underlying28
 have hu45 := Try.underlying45
 have hu78 := Try.underlying78
 have HR0 := ak hr0
 have HC0 := ak hc0
 clear hr0 hc0
 have HB := ak (Below.refl w.heap.size w)
 have H : ((spec_l1Cur_segmented.f k l0 0 0).bind fun bt594 => ((spec_l1Cur_entry.f k l0 bt594.2.2.2.2.1 bt594.2.2.2.2.2).bind fun bt604 => (some (bt594.1, bt594.2.1, bt594.2.2.1, bt594.2.2.2.1, bt604.1, bt604.2.1)))) = some (r1, r2, r3, r4, r5, r6) := h
 clear h
 replace H := Option.bind_eq_some_iff.mp H
 obtain ⟨⟨t594, t595, t596, t599, t602, t603⟩, A20, H⟩ := H
 try dsimp only at H
 have A2 := ak A20
 clear A20
 replace H := Option.bind_eq_some_iff.mp H
 obtain ⟨⟨t604, t605, t606, t607⟩, A30, H⟩ := H
 try dsimp only at H
 have A3 := ak A30
 clear A30
 simp only [Option.some.injEq, Prod.mk.injEq] at H
 obtain ⟨rfl, rfl, rfl, rfl, rfl, rfl⟩ := H
 go_enter Try.func37, Try.ntmps37
 go_wp2_with (first | (refine bE 2 #[.int .i64 0, .int .i64 0, .slice none 0 0, .slice none 0 0] 28 ?_; intro gb591 hg w4 hbox hb; have BK591 := ak hbox; have GW591 := gs hg (bl HB.out); have GE591 := gs hg (bl HB.out); replace HB := ak (below_step (bl HB.out) hb); clear hb hbox hg) | (refine bE 3 #[.string (⟨#[]⟩ : ByteArray), .string (⟨#[]⟩ : ByteArray)] 45 ?_; intro gb592 hg w5 hbox hb; have BK592 := ak hbox; have GW592 := gs hg (bl1 HB.out GE591.out); have GE592 := gs hg (bl1 HB.out GE591.out); replace HB := ak (below_step (bl1 HB.out GE591.out) hb); have NB591_592 := nl hg BK591.out; have NB592_591 := ng hg BK591.out; replace BK591 := ak (blk_below (bk BK591.out) hb); clear hb hbox hg) | (refine bE 7 #[.slice A0 l0.length c0, .int .i64 0, .int .u64 0] 78 ?_; intro gb593 hg w6 hbox hb; have BK593 := ak hbox; have GW593 := gs hg (bl2 HB.out GE591.out GE592.out); have GE593 := gs hg (bl2 HB.out GE591.out GE592.out); replace HB := ak (below_step (bl2 HB.out GE591.out GE592.out) hb); have NB591_593 := nl hg BK591.out; have NB593_591 := ng hg BK591.out; replace BK591 := ak (blk_below (bk BK591.out) hb); have NB592_593 := nl hg BK592.out; have NB593_592 := ng hg BK592.out; replace BK592 := ak (blk_below (bk BK592.out) hb); clear hb hbox hg; have HI593 := ak (show IsS78 w w6 gb593 l0 0 0 from ⟨_, _, BK593.out, GE593.out, HR0.out⟩)) | (refine gL 63 Try.func63 (some 9) #[.pointer (some ⟨gb593, 0, none⟩)] ?_; (with_reducible refine (spec_l1Cur_segmented.calls k gb593 l0 0 0 t594 t595 t596 t599 t602 t603 w _ ?side1 ?side2 A2.out).mono ?_); (case side1 => exact is2 HI593.out NB593_591.out NB593_592.out); (case side2 => exact bl3 HB.out (IsS78.ge HI593.out) GE591.out GE592.out); rintro e w7 ⟨v597, v600, rfl, ho0, ho1, hi, hb, hk⟩; refine ⟨_, rfl, ?_⟩; replace BK591 := ak (KeepBut.blk hk (g' := gb591) (o := .cells #[.int .i64 0, .int .i64 0, .slice none 0 0, .slice none 0 0] 28 (0, 0)) (bk BK591.out) NB591_593.out (by simp)); have HO598 := ak (Kd.R_lower (Kd.R_newB ho0 (bk BK592.out)) (below_size (bl3 HB.out (IsS78.ge HI593.out) GE591.out GE592.out))); have HO601 := ak (Kd.R_lower (Kd.R_newB ho1 (bk BK592.out)) (below_size (bl3 HB.out (IsS78.ge HI593.out) GE591.out GE592.out))); replace BK592 := ak (KeepBut.blk hk (g' := gb592) (o := .cells #[.string (⟨#[]⟩ : ByteArray), .string (⟨#[]⟩ : ByteArray)] 45 (0, 0)) (bk BK592.out) NB592_593.out (by simp)); replace HB := ak hb; replace HI593 := ak hi; clear hb hk hi ho0 ho1) | (refine gL 64 Try.func64 (some 11) #[.pointer (some ⟨gb593, 0, none⟩)] ?_; (with_reducible refine (spec_l1Cur_entry.calls k gb593 l0 t602 t603 t604 t605 t606 t607 w _ ?side1 ?side2 A3.out).mono ?_); (case side1 => exact is2 HI593.out NB593_591.out NB593_592.out); (case side2 => exact bl3 HB.out (IsS78.ge HI593.out) GE591.out GE592.out); rintro e w8 ⟨rfl, hi, hb, hk⟩; refine ⟨_, rfl, ?_⟩; replace BK591 := ak (KeepBut.blk hk (g' := gb591) (o := .cells #[.int .i64 0, .int .i64 0, .slice none 0 0, .slice none 0 0] 28 (0, 0)) (bk BK591.out) NB591_593.out (by simp)); replace BK592 := ak (KeepBut.blk hk (g' := gb592) (o := .cells #[.string (⟨#[]⟩ : ByteArray), .string (⟨#[]⟩ : ByteArray)] 45 (0, 0)) (bk BK592.out) NB592_593.out (by simp)); replace HO598 := ak (Kd.R_mono (Kd.R_keep (IsS78.apart (show IsS78 w _ gb593 l0 t602 t603 from is2 HI593.out NB593_591.out NB593_592.out) (kr HO598.out) (by decide)) hk (fun _ h => h.2)) (fun _ h => h.1)); replace HO601 := ak (Kd.R_mono (Kd.R_keep (IsS78.apart (show IsS78 w _ gb593 l0 t602 t603 from is2 HI593.out NB593_591.out NB593_592.out) (kr HO601.out) (by decide)) hk (fun _ h => h.2)) (fun _ h => h.1)); replace HB := ak hb; replace HI593 := ak hi; clear hb hk hi; have hnb9 := NB591_592.out; have hnc9 := NB592_591.out; have hnb10 := NB591_593.out; have hnc10 := NB593_591.out; obtain ⟨hcz11_0, hcz11_1, hcz11_2, hcz11_3, hfz11_0, hfz11_1, hfz11_2, hfz11_3⟩ := b4 BK591.out; obtain ⟨Ao12, co12, eo12⟩ := Kd.R_slice HO598.out; subst eo12; obtain ⟨Ao13, co13, eo13⟩ := Kd.R_slice HO601.out; subst eo13; have hnb14 := NB592_593.out; have hnc14 := NB593_592.out; obtain ⟨hcz15_0, hcz15_1, hfz15_0, hfz15_1⟩ := b2 BK592.out))
 refine bodyPost_ret (results_cc rfl _ _ gb591 gb592 28 45 #[.int .i64 t594, .int .i64 t595, .slice Ao12 t596.length co12, .slice Ao13 t599.length co13] #[.string t604, .string t605] (0, 0) (0, 0) _ _ rfl (bq BK591.out) Try.underlying28 rfl (by kernel_rfl) rfl (bq BK592.out) Try.underlying45 rfl (by kernel_rfl)) rfl ?_
 exact ⟨_, _, by first | rfl | (simp [errW_none, errW_some] <;> rfl) | (simp [*, errW_none, errW_some] <;> rfl), by (with_reducible repeat (first | apply Kd.R_alloc | apply Kd.R_drewN | apply Kd.R_drew)); exact Kd.R_mono (Kd.R_far (p := ⟨gb592, 1, none⟩) (Kd.R_far (p := ⟨gb592, 0, none⟩) (Kd.R_far (p := ⟨gb591, 3, none⟩) (Kd.R_far (p := ⟨gb591, 2, none⟩) (Kd.R_far (p := ⟨gb591, 1, none⟩) (Kd.R_far (p := ⟨gb591, 0, none⟩) (Kd.R_mono (Kd.R_types HO598.out BK591.out (by decide)) (fun k_ hk => (⟨hk, hk.1.2⟩ : _ ∧ k_ ≠ gb592))) (fun _ hk => hk.1.2) (.int .i64 t594)) (fun _ hk => hk.1.2) (.int .i64 t595)) (fun _ hk => hk.1.2) (.slice Ao12 t596.length co12)) (fun _ hk => hk.1.2) (.slice Ao13 t599.length co13)) (fun _ hk => hk.2) (.string t604)) (fun _ hk => hk.2) (.string t605)) (fun _ hk => hk.1.1.1), by (with_reducible repeat (first | apply Kd.R_alloc | apply Kd.R_drewN | apply Kd.R_drew)); exact Kd.R_mono (Kd.R_far (p := ⟨gb592, 1, none⟩) (Kd.R_far (p := ⟨gb592, 0, none⟩) (Kd.R_far (p := ⟨gb591, 3, none⟩) (Kd.R_far (p := ⟨gb591, 2, none⟩) (Kd.R_far (p := ⟨gb591, 1, none⟩) (Kd.R_far (p := ⟨gb591, 0, none⟩) (Kd.R_mono (Kd.R_types HO601.out BK591.out (by decide)) (fun k_ hk => (⟨hk, hk.1.2⟩ : _ ∧ k_ ≠ gb592))) (fun _ hk => hk.1.2) (.int .i64 t594)) (fun _ hk => hk.1.2) (.int .i64 t595)) (fun _ hk => hk.1.2) (.slice Ao12 t596.length co12)) (fun _ hk => hk.1.2) (.slice Ao13 t599.length co13)) (fun _ hk => hk.2) (.string t604)) (fun _ hk => hk.2) (.string t605)) (fun _ hk => hk.1.1.1), bl3 HB.out (IsS78.ge HI593.out) GE591.out GE592.out⟩

end Go.Proofs.Ytfopmaiednikhaa.PFnParts
