-- written by a program of this session (wip/tool)
import Derived.Test.YtfopmaiednikhaaPFnScannedx0
import Derived.Test.YtfopmaiednikhaaPFnScannedx2
import Derived.Test.YtfopmaiednikhaaPFnScannedx5
import Derived.Test.YtfopmaiednikhaaPFnScannedx10
import Derived.Test.YtfopmaiednikhaaPFnScannedx11
import Derived.Test.YtfopmaiednikhaaVOwn0
import Derived.Test.YtfopmaiednikhaaVOwnOpen
import Derived.WalkKit
import Derived.BigCall
import Derived.Lib.SliceRun
import Derived.Deep.RegionLaw
import Derived.Maps.OwnSet
import Derived.Maps.OwnOps
import Derived.Maps.Views
import Derived.Test.YtfopmaiednikhaaVWZeros
import Derived.Test.YtfopmaiednikhaaVWArr
import Derived.Test.YtfopmaiednikhaaVOwnShort
namespace Go.Proofs.Ytfopmaiednikhaa.PFnScanned
open Go.RowKit Go.Proofs.YtfopmaiednikhaaW.PrintWords Go.Proofs.YtfopmaiednikhaaW.PrintLast Go.Proofs.YtfopmaiednikhaaW.PrintMore Go.Shelf Go.Proofs.YtfopmaiednikhaaOwn
attribute [local go_sem] max2_int min2_int max_two min_two max_three min_three max_four min_four   -- for this text's walks alone
set_option linter.unusedVariables false
set_option linter.unusedSimpArgs false

/-! ### laws_FnScanned: function 4 -/
mutual
def laws_FnScanned.j0 : Nat → List ByteArray → Bool → Bool → Int → Int → List (S45) → List (S45) → Option (Bool)
 | 0, _, _, _, _, _, _, _ => none
 | k + 1, x7, x8, x57, x542000, x542001, x542002, x542003 => if x57 = true then (none) else (if x8 = true then ((some (([(⟨#[110, 49]⟩ : ByteArray), (⟨#[110, 50]⟩ : ByteArray), (⟨#[110, 51]⟩ : ByteArray), (⟨#[110, 52]⟩ : ByteArray), (⟨#[110, 53]⟩ : ByteArray), (⟨#[110, 54]⟩ : ByteArray)] : List ByteArray) : List ByteArray)).bind fun y558 => (laws_FnScanned.l0 k y558 (y558.length : Int) 0 x542000 x542001 x542002 x542003 x542000 x542001 x542002 x542003)) else (some ((x7.length : Int) == 0)))
def laws_FnScanned.l0 : Nat → List ByteArray → Int → Int → Int → Int → List (S45) → List (S45) → Int → Int → List (S45) → List (S45) → Option (Bool)
 | 0, _, _, _, _, _, _, _, _, _, _, _ => none
 | k + 1, x64, x65, x66, x542000, x542001, x542002, x542003, x558000, x558001, x558002, x558003 => if x66 < x65 then (if 0 ≤ x66 then (if x66 < (x64.length : Int) then ((impl_PutEntry.f k x558000 x558001 x558002 x558003 (rdOf ByteArray.empty x64 x66) (⟨#[97, 32, 118, 97, 108, 117, 101, 32, 111, 102, 32, 115, 111, 109, 101, 32, 98, 121, 116, 101, 115, 44, 32, 116, 111, 32, 102, 105, 108, 108, 32, 119, 104, 97, 116, 32, 105, 115, 32, 111, 110, 32, 116, 114, 105, 97, 108]⟩ : ByteArray)).bind fun bt562 => (if bt562.2.2.2.2.2 = true then (laws_FnScanned.l0 k x64 x65 (wrap64 (x66 + 1)) x542000 x542001 x542002 x542003 bt562.1 bt562.2.1 bt562.2.2.1 bt562.2.2.2.1) else (none))) else (none)) else (none)) else ((impl_GoodSegmented.f k x542000 x542001 x542002 x542003).bind fun t575 => (if t575 = true then ((laws_sameEntries.f k x558003 x542003).bind fun t576 => (some t576)) else (none)))
end
def laws_FnScanned.f (k : Nat) (l0 : List Int) : Option (Bool) := if (l0.length : Int) > 1048576 then (some true) else ((spec_DrawPlaySegmented.f k l0).bind fun bt524 => ((impl_PlaySegmented.f k bt524.1 bt524.2.1 bt524.2.2).bind fun bt529 => ((spec_PlaySegmented.f k bt524.1 bt524.2.1 bt524.2.2).bind fun bt542 => (if (bt529.2.2.2.2.2 != bt542.2.2.2.2.2) = true then (laws_FnScanned.j0 k bt529.2.2.2.2.1 bt529.2.2.2.2.2 true bt529.1 bt529.2.1 bt529.2.2.1 bt529.2.2.2.1) else ((laws_sameCaches.f k bt529.1 bt529.2.1 bt529.2.2.1 bt529.2.2.2.1 bt542.1 bt542.2.1 bt542.2.2.1 bt542.2.2.2.1).bind fun t555 => (if t555 = true then ((laws_sameTexts.f k bt529.2.2.2.2.1 bt542.2.2.2.2.1).bind fun t556 => (laws_FnScanned.j0 k bt529.2.2.2.2.1 bt529.2.2.2.2.2 (!t556) bt529.1 bt529.2.1 bt529.2.2.1 bt529.2.2.2.1)) else (laws_FnScanned.j0 k bt529.2.2.2.2.1 bt529.2.2.2.2.2 true bt529.1 bt529.2.1 bt529.2.2.1 bt529.2.2.2.1)))))))
theorem laws_FnScanned.mono_l : ∀ k, (∀ y0 y1 y2 y3 y4 y5 y6, LeO (laws_FnScanned.j0 k y0 y1 y2 y3 y4 y5 y6) (laws_FnScanned.j0 (k + 1) y0 y1 y2 y3 y4 y5 y6)) ∧ (∀ y0 y1 y2 y3 y4 y5 y6 y7 y8 y9 y10, LeO (laws_FnScanned.l0 k y0 y1 y2 y3 y4 y5 y6 y7 y8 y9 y10) (laws_FnScanned.l0 (k + 1) y0 y1 y2 y3 y4 y5 y6 y7 y8 y9 y10))
 | 0 => ⟨fun _ _ _ _ _ _ _ r h => by simp [laws_FnScanned.j0] at h, fun _ _ _ _ _ _ _ _ _ _ _ r h => by simp [laws_FnScanned.l0] at h⟩
 | k + 1 => by
  obtain ⟨ih0, ih1⟩ := laws_FnScanned.mono_l k
  refine ⟨?_, ?_⟩
  ·intro y0 y1 y2 y3 y4 y5 y6
   unfold laws_FnScanned.j0
   repeat' first
   | (with_reducible exact ih0 _ _ _ _ _ _ _)
   | (with_reducible exact ih1 _ _ _ _ _ _ _ _ _ _ _)
   | (with_reducible exact impl_GoodSegmented.mono _ _ _ _ _)
   | (with_reducible exact impl_PlaySegmented.mono _ _ _ _)
   | (with_reducible exact impl_PutEntry.mono _ _ _ _ _ _ _)
   | (with_reducible exact laws_sameCaches.mono _ _ _ _ _ _ _ _ _)
   | (with_reducible exact laws_sameEntries.mono _ _ _)
   | (with_reducible exact laws_sameTexts.mono _ _ _)
   | (with_reducible exact spec_DrawPlaySegmented.mono _ _)
   | (with_reducible exact spec_PlaySegmented.mono _ _ _ _)
   | (with_reducible exact LeO.refl _)
   | (with_reducible exact LeO.none _)
   | (with_reducible refine LeO.ite ?_ ?_)
   | (with_reducible refine LeO.bind ?_ (fun _ => ?_))
   | exact ih0 _ _ _ _ _ _ _
   | exact ih1 _ _ _ _ _ _ _ _ _ _ _
   | exact impl_GoodSegmented.mono _ _ _ _ _
   | exact impl_PlaySegmented.mono _ _ _ _
   | exact impl_PutEntry.mono _ _ _ _ _ _ _
   | exact laws_sameCaches.mono _ _ _ _ _ _ _ _ _
   | exact laws_sameEntries.mono _ _ _
   | exact laws_sameTexts.mono _ _ _
   | exact spec_DrawPlaySegmented.mono _ _
   | exact spec_PlaySegmented.mono _ _ _ _
   | exact LeO.none _
   | refine LeO.ite ?_ ?_
   | refine LeO.bind ?_ (fun _ => ?_)
  ·intro y0 y1 y2 y3 y4 y5 y6 y7 y8 y9 y10
   unfold laws_FnScanned.l0
   repeat' first
   | (with_reducible exact ih0 _ _ _ _ _ _ _)
   | (with_reducible exact ih1 _ _ _ _ _ _ _ _ _ _ _)
   | (with_reducible exact impl_GoodSegmented.mono _ _ _ _ _)
   | (with_reducible exact impl_PlaySegmented.mono _ _ _ _)
   | (with_reducible exact impl_PutEntry.mono _ _ _ _ _ _ _)
   | (with_reducible exact laws_sameCaches.mono _ _ _ _ _ _ _ _ _)
   | (with_reducible exact laws_sameEntries.mono _ _ _)
   | (with_reducible exact laws_sameTexts.mono _ _ _)
   | (with_reducible exact spec_DrawPlaySegmented.mono _ _)
   | (with_reducible exact spec_PlaySegmented.mono _ _ _ _)
   | (with_reducible exact LeO.refl _)
   | (with_reducible exact LeO.none _)
   | (with_reducible refine LeO.ite ?_ ?_)
   | (with_reducible refine LeO.bind ?_ (fun _ => ?_))
   | exact ih0 _ _ _ _ _ _ _
   | exact ih1 _ _ _ _ _ _ _ _ _ _ _
   | exact impl_GoodSegmented.mono _ _ _ _ _
   | exact impl_PlaySegmented.mono _ _ _ _
   | exact impl_PutEntry.mono _ _ _ _ _ _ _
   | exact laws_sameCaches.mono _ _ _ _ _ _ _ _ _
   | exact laws_sameEntries.mono _ _ _
   | exact laws_sameTexts.mono _ _ _
   | exact spec_DrawPlaySegmented.mono _ _
   | exact spec_PlaySegmented.mono _ _ _ _
   | exact LeO.none _
   | refine LeO.ite ?_ ?_
   | refine LeO.bind ?_ (fun _ => ?_)
theorem laws_FnScanned.mono : ∀ a0 k, LeO (laws_FnScanned.f k a0) (laws_FnScanned.f (k + 1) a0) := by
 intro a0 k
 obtain ⟨ih0, ih1⟩ := laws_FnScanned.mono_l k
 unfold laws_FnScanned.f
 repeat' first
   | (with_reducible exact ih0 _ _ _ _ _ _ _)
   | (with_reducible exact ih1 _ _ _ _ _ _ _ _ _ _ _)
   | (with_reducible exact impl_GoodSegmented.mono _ _ _ _ _)
   | (with_reducible exact impl_PlaySegmented.mono _ _ _ _)
   | (with_reducible exact impl_PutEntry.mono _ _ _ _ _ _ _)
   | (with_reducible exact laws_sameCaches.mono _ _ _ _ _ _ _ _ _)
   | (with_reducible exact laws_sameEntries.mono _ _ _)
   | (with_reducible exact laws_sameTexts.mono _ _ _)
   | (with_reducible exact spec_DrawPlaySegmented.mono _ _)
   | (with_reducible exact spec_PlaySegmented.mono _ _ _ _)
   | (with_reducible exact LeO.refl _)
   | (with_reducible exact LeO.none _)
   | (with_reducible refine LeO.ite ?_ ?_)
   | (with_reducible refine LeO.bind ?_ (fun _ => ?_))
   | exact ih0 _ _ _ _ _ _ _
   | exact ih1 _ _ _ _ _ _ _ _ _ _ _
   | exact impl_GoodSegmented.mono _ _ _ _ _
   | exact impl_PlaySegmented.mono _ _ _ _
   | exact impl_PutEntry.mono _ _ _ _ _ _ _
   | exact laws_sameCaches.mono _ _ _ _ _ _ _ _ _
   | exact laws_sameEntries.mono _ _ _
   | exact laws_sameTexts.mono _ _ _
   | exact spec_DrawPlaySegmented.mono _ _
   | exact spec_PlaySegmented.mono _ _ _ _
   | exact LeO.none _
   | refine LeO.ite ?_ ?_
   | refine LeO.bind ?_ (fun _ => ?_)
set_option maxHeartbeats 8000000 in
set_option maxRecDepth 100000 in
theorem laws_FnScanned.calls (k : Nat) (A0 : Option Addr) (c0 : Nat) (l0 : List Int) (r : Bool) (w : World) (hr0 : Kd.C (Kd.int .u8) w A0 l0.length l0) (hc0 : l0.length ≤ c0) (h : laws_FnScanned.f k l0 = some r) :
  Calls Try.prog 4 #[.slice A0 l0.length c0] w fun e w' => e = .returned (.bool r) ∧ Below w.heap.size w w' := by
 have hu28 := Try.underlying28
 have hu45 := Try.underlying45
 have HR0 := Aside0.mk hr0
 have HC0 := Aside0.mk hc0
 clear hr0 hc0
 have HB := Aside0.mk (Below.refl w.heap.size w)
 have H : (if (l0.length : Int) > 1048576 then (some true) else ((spec_DrawPlaySegmented.f k l0).bind fun bt524 => ((impl_PlaySegmented.f k bt524.1 bt524.2.1 bt524.2.2).bind fun bt529 => ((spec_PlaySegmented.f k bt524.1 bt524.2.1 bt524.2.2).bind fun bt542 => (if (bt529.2.2.2.2.2 != bt542.2.2.2.2.2) = true then (laws_FnScanned.j0 k bt529.2.2.2.2.1 bt529.2.2.2.2.2 true bt529.1 bt529.2.1 bt529.2.2.1 bt529.2.2.2.1) else ((laws_sameCaches.f k bt529.1 bt529.2.1 bt529.2.2.1 bt529.2.2.2.1 bt542.1 bt542.2.1 bt542.2.2.1 bt542.2.2.2.1).bind fun t555 => (if t555 = true then ((laws_sameTexts.f k bt529.2.2.2.2.1 bt542.2.2.2.2.1).bind fun t556 => (laws_FnScanned.j0 k bt529.2.2.2.2.1 bt529.2.2.2.2.2 (!t556) bt529.1 bt529.2.1 bt529.2.2.1 bt529.2.2.2.1)) else (laws_FnScanned.j0 k bt529.2.2.2.2.1 bt529.2.2.2.2.2 true bt529.1 bt529.2.1 bt529.2.2.1 bt529.2.2.2.1)))))))) = some r := h
 clear h
 by_cases c2 : (l0.length : Int) > 1048576
 ·rw [if_pos c2] at H
  have c2b0 : decide (1048576 < (l0.length : Int)) = true := decide_eq_true c2
  have c2b1 : decide (1048576 < l0.length) = true := decide_eq_true (by omega)
  clear c2
  obtain rfl := Option.some.inj H
  go_enter Try.func4, Try.ntmps4
  go_wp2
  go_ret
  exact ⟨by first | rfl | (simp [errW_none, errW_some] <;> rfl) | (simp [*, errW_none, errW_some] <;> rfl), bl HB.out⟩
 ·rw [if_neg c2] at H
  have c2b0 : decide (1048576 < (l0.length : Int)) = false := decide_eq_false c2
  have c2b1 : decide (1048576 < l0.length) = false := decide_eq_false (by omega)
  clear c2
  replace H := Option.bind_eq_some_iff.mp H
  obtain ⟨⟨t524, t525, t526⟩, A30, H⟩ := H
  try dsimp only at H
  have A3 := Aside0.mk A30
  clear A30
  replace H := Option.bind_eq_some_iff.mp H
  obtain ⟨⟨t529, t530, t531, t534, t537, t540⟩, A40, H⟩ := H
  try dsimp only at H
  have A4 := Aside0.mk A40
  clear A40
  replace H := Option.bind_eq_some_iff.mp H
  obtain ⟨⟨t542, t543, t544, t547, t550, t553⟩, A50, H⟩ := H
  try dsimp only at H
  have A5 := Aside0.mk A50
  clear A50
  have HC6 := Aside0.mk H
  clear H
  go_enter Try.func4, Try.ntmps4
  go_upto_region 6 with (first | ((with_reducible refine gate_callee (f := 16) rfl ?_); refine goesL_ (some 23) rfl rfl Try.func16 (by kernel_rfl) rfl #[.slice A0 l0.length c0] rfl (by (try simp only [List.map_toArray, List.map_cons, List.map_nil]); first | done | rfl | (simp only [List.length_drop, List.length_take]; rfl)) ?_; (with_reducible refine (spec_DrawPlaySegmented.calls k _ _ l0 t524 t525 t526 _ ?side1 ?side2 A3.out).mono ?_); (case side1 => exact kc HR0.out); (case side2 => exact HC0.out); rintro e w7 ⟨v527, rfl, ho0, hb⟩; refine ⟨_, rfl, ?_⟩; have n0_ := Aside0.mk (Kd.R_lower ho0 (below_size (bl HB.out))); have n1_ := Aside0.mk (below_step (bl HB.out) hb); clear HB; have HO528 := n0_; have HB := n1_; clear n0_ n1_; (try clear hb); (try clear hb2); (try clear hk); (try clear hi); (try clear ho0); obtain ⟨Ao8, co8, eo8⟩ := Kd.R_slice HO528.out; subst eo8) | ((with_reducible refine gate_callee (f := 17) rfl ?_); refine goesL_ (some 31) rfl rfl Try.func17 (by kernel_rfl) rfl #[.int .i64 t524, .int .i64 t525, .slice Ao8 t526.length co8] rfl (by (try simp only [List.map_toArray, List.map_cons, List.map_nil]); first | done | rfl | (simp only [List.length_drop, List.length_take]; rfl)) ?_; (with_reducible refine (impl_PlaySegmented.calls k t524 t525 _ _ t526 t529 t530 t531 t534 t537 t540 _ ?side1 ?side2 A4.out).mono ?_); (case side1 => exact kc (Kd.R_reads' HO528.out).2.2); (case side2 => exact (Kd.R_reads' HO528.out).2.1); rintro e w9 ⟨v532, v535, v538, rfl, ho0, ho1, ho2, hb⟩; refine ⟨_, rfl, ?_⟩; have n0_ := Aside0.mk (Kd.R_mono (Kd.R_told (Kd.R_told (Kd.R_old (kr HO528.out) hb) (Kd.R_base ho0)) (Kd.R_base ho1)) (fun _ h_ => h_.1)); have n1_ := Aside0.mk (Kd.R_lower (Kd.R_new' ho0 (Kd.R_lt (kr HO528.out))) (below_size (bl HB.out))); have n2_ := Aside0.mk (Kd.R_lower (Kd.R_new' ho1 (Kd.R_lt (kr HO528.out))) (below_size (bl HB.out))); have n3_ := Aside0.mk (Kd.R_lower ho2 (below_size (bl HB.out))); have n4_ := Aside0.mk (below_step (bl HB.out) hb); clear HO528; clear HB; have HO528 := n0_; have HO533 := n1_; have HO536 := n2_; have HO539 := n3_; have HB := n4_; clear n0_ n1_ n2_ n3_ n4_; (try clear hb); (try clear hb2); (try clear hk); (try clear hi); (try clear ho0); (try clear ho1); (try clear ho2)) | ((with_reducible refine gate_dst (N := 6) rfl ?_); refine box_event ?hg (N := 6) ?hd (cs := #[.int .i64 0, .int .i64 0, .slice none 0 0, .slice none 0 0]) (t := 28) ?hr ?_; (case hd => rfl); (case hg => rfl); (case hr => first | (go_simp; done) | (go_simp; rfl)); intro gb541 hg w10 hbox hb; have n0_ := Aside0.mk (Kd.R_below (kr HO528.out) hb); have n1_ := Aside0.mk (Kd.R_below (kr HO533.out) hb); have n2_ := Aside0.mk (Kd.R_below (kr HO536.out) hb); have n3_ := Aside0.mk (Kd.R_below (kr HO539.out) hb); have n4_ := Aside0.mk (below_step (bl HB.out) hb); have n5_ := Aside0.mk (hbox); have n6_ := Aside0.mk ((by rw [hg]; exact (below_size (bl HB.out)) : w.heap.size ≤ gb541)); have n7_ := Aside0.mk ((by rw [hg]; exact (below_size (bl HB.out)) : w.heap.size ≤ gb541)); clear HO528; clear HO533; clear HO536; clear HO539; clear HB; have HO528 := n0_; have HO533 := n1_; have HO536 := n2_; have HO539 := n3_; have HB := n4_; have BK541 := n5_; have GW541 := n6_; have GE541 := n7_; clear n0_ n1_ n2_ n3_ n4_ n5_ n6_ n7_; clear hb hbox hg; have hcz11_0 : w10.cell? ⟨gb541, 0, none⟩ = some (.int .i64 0) := (blk_cell BK541.out 0).trans rfl; have hcz11_1 : w10.cell? ⟨gb541, 1, none⟩ = some (.int .i64 0) := (blk_cell BK541.out 1).trans rfl; have hcz11_2 : w10.cell? ⟨gb541, 2, none⟩ = some (.slice none 0 0) := (blk_cell BK541.out 2).trans rfl; have hcz11_3 : w10.cell? ⟨gb541, 3, none⟩ = some (.slice none 0 0) := (blk_cell BK541.out 3).trans rfl; have hfz11_0 := blk_frozen BK541.out 0; have hfz11_1 := blk_frozen BK541.out 1; have hfz11_2 := blk_frozen BK541.out 2; have hfz11_3 := blk_frozen BK541.out 3; obtain ⟨Ao12, co12, eo12⟩ := Kd.R_slice HO533.out; subst eo12; obtain ⟨Ao13, co13, eo13⟩ := Kd.R_slice HO536.out; subst eo13) | ((with_reducible refine gate_callee (f := 18) rfl ?_); refine goesL_ (some 39) rfl rfl Try.func18 (by kernel_rfl) rfl #[.int .i64 t524, .int .i64 t525, .slice Ao8 t526.length co8] rfl (by (try simp only [List.map_toArray, List.map_cons, List.map_nil]); first | done | rfl | (simp only [List.length_drop, List.length_take]; rfl)) ?_; (with_reducible refine (spec_PlaySegmented.calls k t524 t525 _ _ t526 t542 t543 t544 t547 t550 t553 _ ?side1 ?side2 A5.out).mono ?_); (case side1 => refine (Kd.R_reads' (e := 45) (base := w.heap.size) (ok := fun k_ => ((True ∧ some k_ ≠ (.slice Ao12 t531.length co12 : Value).ownBlock) ∧ some k_ ≠ (.slice Ao13 t534.length co13 : Value).ownBlock)) (n := t526.length) (c := co8) ?_).2.2; exact (by (with_reducible repeat (first | apply Kd.R_alloc | apply Kd.R_drewN | apply Kd.R_drew)); exact (Kd.R_mono (Kd.R_far (p := ⟨gb541, 3, none⟩) (Kd.R_far (p := ⟨gb541, 2, none⟩) (Kd.R_far (p := ⟨gb541, 1, none⟩) (Kd.R_far (p := ⟨gb541, 0, none⟩) (Kd.R_types HO528.out BK541.out (by decide)) (fun _ hk => hk.2) (.int .i64 t529)) (fun _ hk => hk.2) (.int .i64 t530)) (fun _ hk => hk.2) (.slice Ao12 t531.length co12)) (fun _ hk => hk.2) (.slice Ao13 t534.length co13)) (fun _ h_ => h_.1)))); (case side2 => exact (Kd.R_reads' HO528.out).2.1); rintro e w14 ⟨v545, v548, v551, rfl, ho0, ho1, ho2, hb⟩; refine ⟨_, rfl, ?_⟩; have n0_ := Aside0.mk (Kd.R_mono (Kd.R_told (Kd.R_told (Kd.R_old (by (with_reducible repeat (first | apply Kd.R_alloc | apply Kd.R_drewN | apply Kd.R_drew)); exact (Kd.R_mono (Kd.R_far (p := ⟨gb541, 3, none⟩) (Kd.R_far (p := ⟨gb541, 2, none⟩) (Kd.R_far (p := ⟨gb541, 1, none⟩) (Kd.R_far (p := ⟨gb541, 0, none⟩) (Kd.R_types HO528.out BK541.out (by decide)) (fun _ hk => hk.2) (.int .i64 t529)) (fun _ hk => hk.2) (.int .i64 t530)) (fun _ hk => hk.2) (.slice Ao12 t531.length co12)) (fun _ hk => hk.2) (.slice Ao13 t534.length co13)) (fun _ h_ => h_.1))) hb) (Kd.R_base ho0)) (Kd.R_base ho1)) (fun _ h_ => h_.1)); have n1_ := Aside0.mk (Kd.R_mono (Kd.R_told (Kd.R_told (Kd.R_old (by (with_reducible repeat (first | apply Kd.R_alloc | apply Kd.R_drewN | apply Kd.R_drew)); exact (Kd.R_mono (Kd.R_far (p := ⟨gb541, 3, none⟩) (Kd.R_far (p := ⟨gb541, 2, none⟩) (Kd.R_far (p := ⟨gb541, 1, none⟩) (Kd.R_far (p := ⟨gb541, 0, none⟩) (Kd.R_types HO533.out BK541.out (by decide)) (fun _ hk => hk.2) (.int .i64 t529)) (fun _ hk => hk.2) (.int .i64 t530)) (fun _ hk => hk.2) (.slice Ao12 t531.length co12)) (fun _ hk => hk.2) (.slice Ao13 t534.length co13)) (fun _ h_ => h_.1))) hb) (Kd.R_base ho0)) (Kd.R_base ho1)) (fun _ h_ => h_.1)); have n2_ := Aside0.mk (Kd.R_mono (Kd.R_told (Kd.R_told (Kd.R_old (by (with_reducible repeat (first | apply Kd.R_alloc | apply Kd.R_drewN | apply Kd.R_drew)); exact (Kd.R_mono (Kd.R_far (p := ⟨gb541, 3, none⟩) (Kd.R_far (p := ⟨gb541, 2, none⟩) (Kd.R_far (p := ⟨gb541, 1, none⟩) (Kd.R_far (p := ⟨gb541, 0, none⟩) (Kd.R_types HO536.out BK541.out (by decide)) (fun _ hk => hk.2) (.int .i64 t529)) (fun _ hk => hk.2) (.int .i64 t530)) (fun _ hk => hk.2) (.slice Ao12 t531.length co12)) (fun _ hk => hk.2) (.slice Ao13 t534.length co13)) (fun _ h_ => h_.1))) hb) (Kd.R_base ho0)) (Kd.R_base ho1)) (fun _ h_ => h_.1)); have n3_ := Aside0.mk (Kd.R_elder' (by (with_reducible repeat (first | apply Kd.R_alloc | apply Kd.R_drewN | apply Kd.R_drew)); exact (Kd.R_mono (Kd.R_far (p := ⟨gb541, 3, none⟩) (Kd.R_far (p := ⟨gb541, 2, none⟩) (Kd.R_far (p := ⟨gb541, 1, none⟩) (Kd.R_far (p := ⟨gb541, 0, none⟩) (Kd.R_types HO539.out BK541.out (by decide)) (fun _ hk => hk.2) (.int .i64 t529)) (fun _ hk => hk.2) (.int .i64 t530)) (fun _ hk => hk.2) (.slice Ao12 t531.length co12)) (fun _ hk => hk.2) (.slice Ao13 t534.length co13)) (fun _ h_ => h_.1))) (Kd.R_base ho2) hb); have n4_ := Aside0.mk (Kd.R_lower (Kd.R_new' (Kd.R_new' (Kd.R_new' ho0 (Kd.R_lt (by (with_reducible repeat (first | apply Kd.R_alloc | apply Kd.R_drewN | apply Kd.R_drew)); exact (Kd.R_mono (Kd.R_far (p := ⟨gb541, 3, none⟩) (Kd.R_far (p := ⟨gb541, 2, none⟩) (Kd.R_far (p := ⟨gb541, 1, none⟩) (Kd.R_far (p := ⟨gb541, 0, none⟩) (Kd.R_types HO528.out BK541.out (by decide)) (fun _ hk => hk.2) (.int .i64 t529)) (fun _ hk => hk.2) (.int .i64 t530)) (fun _ hk => hk.2) (.slice Ao12 t531.length co12)) (fun _ hk => hk.2) (.slice Ao13 t534.length co13)) (fun _ h_ => h_.1))))) (Kd.R_lt (by (with_reducible repeat (first | apply Kd.R_alloc | apply Kd.R_drewN | apply Kd.R_drew)); exact (Kd.R_mono (Kd.R_far (p := ⟨gb541, 3, none⟩) (Kd.R_far (p := ⟨gb541, 2, none⟩) (Kd.R_far (p := ⟨gb541, 1, none⟩) (Kd.R_far (p := ⟨gb541, 0, none⟩) (Kd.R_types HO533.out BK541.out (by decide)) (fun _ hk => hk.2) (.int .i64 t529)) (fun _ hk => hk.2) (.int .i64 t530)) (fun _ hk => hk.2) (.slice Ao12 t531.length co12)) (fun _ hk => hk.2) (.slice Ao13 t534.length co13)) (fun _ h_ => h_.1))))) (Kd.R_lt (by (with_reducible repeat (first | apply Kd.R_alloc | apply Kd.R_drewN | apply Kd.R_drew)); exact (Kd.R_mono (Kd.R_far (p := ⟨gb541, 3, none⟩) (Kd.R_far (p := ⟨gb541, 2, none⟩) (Kd.R_far (p := ⟨gb541, 1, none⟩) (Kd.R_far (p := ⟨gb541, 0, none⟩) (Kd.R_types HO536.out BK541.out (by decide)) (fun _ hk => hk.2) (.int .i64 t529)) (fun _ hk => hk.2) (.int .i64 t530)) (fun _ hk => hk.2) (.slice Ao12 t531.length co12)) (fun _ hk => hk.2) (.slice Ao13 t534.length co13)) (fun _ h_ => h_.1))))) (below_size (bl1 HB.out GE541.out))); have n5_ := Aside0.mk (Kd.R_lower (Kd.R_new' (Kd.R_new' (Kd.R_new' ho1 (Kd.R_lt (by (with_reducible repeat (first | apply Kd.R_alloc | apply Kd.R_drewN | apply Kd.R_drew)); exact (Kd.R_mono (Kd.R_far (p := ⟨gb541, 3, none⟩) (Kd.R_far (p := ⟨gb541, 2, none⟩) (Kd.R_far (p := ⟨gb541, 1, none⟩) (Kd.R_far (p := ⟨gb541, 0, none⟩) (Kd.R_types HO528.out BK541.out (by decide)) (fun _ hk => hk.2) (.int .i64 t529)) (fun _ hk => hk.2) (.int .i64 t530)) (fun _ hk => hk.2) (.slice Ao12 t531.length co12)) (fun _ hk => hk.2) (.slice Ao13 t534.length co13)) (fun _ h_ => h_.1))))) (Kd.R_lt (by (with_reducible repeat (first | apply Kd.R_alloc | apply Kd.R_drewN | apply Kd.R_drew)); exact (Kd.R_mono (Kd.R_far (p := ⟨gb541, 3, none⟩) (Kd.R_far (p := ⟨gb541, 2, none⟩) (Kd.R_far (p := ⟨gb541, 1, none⟩) (Kd.R_far (p := ⟨gb541, 0, none⟩) (Kd.R_types HO533.out BK541.out (by decide)) (fun _ hk => hk.2) (.int .i64 t529)) (fun _ hk => hk.2) (.int .i64 t530)) (fun _ hk => hk.2) (.slice Ao12 t531.length co12)) (fun _ hk => hk.2) (.slice Ao13 t534.length co13)) (fun _ h_ => h_.1))))) (Kd.R_lt (by (with_reducible repeat (first | apply Kd.R_alloc | apply Kd.R_drewN | apply Kd.R_drew)); exact (Kd.R_mono (Kd.R_far (p := ⟨gb541, 3, none⟩) (Kd.R_far (p := ⟨gb541, 2, none⟩) (Kd.R_far (p := ⟨gb541, 1, none⟩) (Kd.R_far (p := ⟨gb541, 0, none⟩) (Kd.R_types HO536.out BK541.out (by decide)) (fun _ hk => hk.2) (.int .i64 t529)) (fun _ hk => hk.2) (.int .i64 t530)) (fun _ hk => hk.2) (.slice Ao12 t531.length co12)) (fun _ hk => hk.2) (.slice Ao13 t534.length co13)) (fun _ h_ => h_.1))))) (below_size (bl1 HB.out GE541.out))); have n6_ := Aside0.mk (Kd.R_lower (Kd.R_new' ho2 (Kd.R_lt (by (with_reducible repeat (first | apply Kd.R_alloc | apply Kd.R_drewN | apply Kd.R_drew)); exact (Kd.R_mono (Kd.R_far (p := ⟨gb541, 3, none⟩) (Kd.R_far (p := ⟨gb541, 2, none⟩) (Kd.R_far (p := ⟨gb541, 1, none⟩) (Kd.R_far (p := ⟨gb541, 0, none⟩) (Kd.R_types HO539.out BK541.out (by decide)) (fun _ hk => hk.2) (.int .i64 t529)) (fun _ hk => hk.2) (.int .i64 t530)) (fun _ hk => hk.2) (.slice Ao12 t531.length co12)) (fun _ hk => hk.2) (.slice Ao13 t534.length co13)) (fun _ h_ => h_.1))))) (below_size (bl1 HB.out GE541.out))); have n7_ := Aside0.mk (blk_below (g := gb541) (o := .cells #[.int .i64 t529, .int .i64 t530, .slice Ao12 t531.length co12, .slice Ao13 t534.length co13] 28 (0, 0)) (by (with_reducible repeat (first | refine blk_drewN ?_ _ | refine blk_drew ?_ | refine blk_alloc ?_ _)); refine blk_put (cs := #[.int .i64 t529, .int .i64 t530, .slice Ao12 t531.length co12, .slice none 0 0]) ?_ 3 _ rfl; (with_reducible repeat (first | refine blk_drewN ?_ _ | refine blk_drew ?_ | refine blk_alloc ?_ _)); refine blk_put (cs := #[.int .i64 t529, .int .i64 t530, .slice none 0 0, .slice none 0 0]) ?_ 2 _ rfl; (with_reducible repeat (first | refine blk_drewN ?_ _ | refine blk_drew ?_ | refine blk_alloc ?_ _)); refine blk_put (cs := #[.int .i64 t529, .int .i64 0, .slice none 0 0, .slice none 0 0]) ?_ 1 _ rfl; (with_reducible repeat (first | refine blk_drewN ?_ _ | refine blk_drew ?_ | refine blk_alloc ?_ _)); refine blk_put (cs := #[.int .i64 0, .int .i64 0, .slice none 0 0, .slice none 0 0]) ?_ 0 _ rfl; exact bk BK541.out) hb); have n8_ := Aside0.mk (below_step (bl1 HB.out GE541.out) hb); clear HO528; clear HO533; clear HO536; clear HO539; clear BK541; clear HB; have HO528 := n0_; have HO533 := n1_; have HO536 := n2_; have HO539 := n3_; have HO546 := n4_; have HO549 := n5_; have HO552 := n6_; have BK541 := n7_; have HB := n8_; clear n0_ n1_ n2_ n3_ n4_ n5_ n6_ n7_ n8_; (try clear hb); (try clear hb2); (try clear hk); (try clear hi); (try clear ho0); (try clear ho1); (try clear ho2)) | ((with_reducible refine gate_dst (N := 9) rfl ?_); refine box_event ?hg (N := 9) ?hd (cs := #[.int .i64 0, .int .i64 0, .slice none 0 0, .slice none 0 0]) (t := 28) ?hr ?_; (case hd => rfl); (case hg => rfl); (case hr => first | (go_simp; done) | (go_simp; rfl)); intro gb554 hg w15 hbox hb; have n0_ := Aside0.mk (Kd.R_below (kr HO528.out) hb); have n1_ := Aside0.mk (Kd.R_below (kr HO533.out) hb); have n2_ := Aside0.mk (Kd.R_below (kr HO536.out) hb); have n3_ := Aside0.mk (Kd.R_below (kr HO539.out) hb); have n4_ := Aside0.mk (Kd.R_below (kr HO546.out) hb); have n5_ := Aside0.mk (Kd.R_below (kr HO549.out) hb); have n6_ := Aside0.mk (Kd.R_below (kr HO552.out) hb); have n7_ := Aside0.mk (blk_below (bk BK541.out) hb); have n8_ := Aside0.mk (below_step (bl1 HB.out GE541.out) hb); have n9_ := Aside0.mk (hbox); have n10_ := Aside0.mk ((by rw [hg]; exact (below_size (bl1 HB.out GE541.out)) : w.heap.size ≤ gb554)); have n11_ := Aside0.mk ((by rw [hg]; exact (below_size (bl1 HB.out GE541.out)) : w.heap.size ≤ gb554)); have n12_ := Aside0.mk ((by rw [hg]; exact Nat.ne_of_lt (blk_lt (bk BK541.out)) : gb541 ≠ gb554)); have n13_ := Aside0.mk ((by rw [hg]; exact Nat.ne_of_gt (blk_lt (bk BK541.out)) : gb554 ≠ gb541)); clear HO528; clear HO533; clear HO536; clear HO539; clear HO546; clear HO549; clear HO552; clear BK541; clear HB; have HO528 := n0_; have HO533 := n1_; have HO536 := n2_; have HO539 := n3_; have HO546 := n4_; have HO549 := n5_; have HO552 := n6_; have BK541 := n7_; have HB := n8_; have BK554 := n9_; have GW554 := n10_; have GE554 := n11_; have NB541_554 := n12_; have NB554_541 := n13_; clear n0_ n1_ n2_ n3_ n4_ n5_ n6_ n7_ n8_ n9_ n10_ n11_ n12_ n13_; clear hb hbox hg; have hnb16 := NB554_541.out; have hnc16 := NB541_554.out; have hcz17_0 : w15.cell? ⟨gb554, 0, none⟩ = some (.int .i64 0) := (blk_cell BK554.out 0).trans rfl; have hcz17_1 : w15.cell? ⟨gb554, 1, none⟩ = some (.int .i64 0) := (blk_cell BK554.out 1).trans rfl; have hcz17_2 : w15.cell? ⟨gb554, 2, none⟩ = some (.slice none 0 0) := (blk_cell BK554.out 2).trans rfl; have hcz17_3 : w15.cell? ⟨gb554, 3, none⟩ = some (.slice none 0 0) := (blk_cell BK554.out 3).trans rfl; have hfz17_0 := blk_frozen BK554.out 0; have hfz17_1 := blk_frozen BK554.out 1; have hfz17_2 := blk_frozen BK554.out 2; have hfz17_3 := blk_frozen BK554.out 3; obtain ⟨Ao18, co18, eo18⟩ := Kd.R_slice HO546.out; subst eo18; obtain ⟨Ao19, co19, eo19⟩ := Kd.R_slice HO549.out; subst eo19))
  (try simp only [Act.put, List.setIfInBounds_toArray, List.set_cons_zero, List.set_cons_succ])
  go_cut [57] (fun v57 wc => ∃ (kq : Nat) (x57_5 : Bool), v57 = .bool x57_5 ∧ Aside0 (laws_FnScanned.j0 kq t537 t540 x57_5 t529 t530 t531 t534 = some r) ∧ Aside0 (kq ≤ k) ∧ Aside0 (Kd.R Kd.string 9 wc w.heap.size (fun _ => True) v538 t537) ∧ Aside0 (Kd.R k45 45 wc w.heap.size (fun k_ => some k_ ≠ ((.slice Ao13 t534.length co13) : Value).ownBlock ∧ some k_ ≠ ((.slice Ao18 t544.length co18) : Value).ownBlock ∧ some k_ ≠ ((.slice Ao19 t547.length co19) : Value).ownBlock) (.slice Ao12 t531.length co12) t531) ∧ Aside0 (Kd.R k45 45 wc w.heap.size (fun k_ => some k_ ≠ ((.slice Ao12 t531.length co12) : Value).ownBlock ∧ some k_ ≠ ((.slice Ao18 t544.length co18) : Value).ownBlock ∧ some k_ ≠ ((.slice Ao19 t547.length co19) : Value).ownBlock) (.slice Ao13 t534.length co13) t534) ∧ Aside0 (Kd.R k45 45 wc w.heap.size (fun k_ => some k_ ≠ ((.slice Ao12 t531.length co12) : Value).ownBlock ∧ some k_ ≠ ((.slice Ao13 t534.length co13) : Value).ownBlock ∧ some k_ ≠ ((.slice Ao19 t547.length co19) : Value).ownBlock) (.slice Ao18 t544.length co18) t544) ∧ Aside0 (Kd.R k45 45 wc w.heap.size (fun k_ => some k_ ≠ ((.slice Ao12 t531.length co12) : Value).ownBlock ∧ some k_ ≠ ((.slice Ao13 t534.length co13) : Value).ownBlock ∧ some k_ ≠ ((.slice Ao18 t544.length co18) : Value).ownBlock) (.slice Ao19 t547.length co19) t547) ∧ Aside0 (wc.heap[gb541]? = some (.cells #[.int .i64 t529, .int .i64 t530, (.slice Ao12 t531.length co12), (.slice Ao13 t534.length co13)] 28 (0, 0))) ∧ Aside0 (wc.heap[gb554]? = some (.cells #[.int .i64 t542, .int .i64 t543, (.slice Ao18 t544.length co18), (.slice Ao19 t547.length co19)] 28 (0, 0))) ∧ Aside0 (Below w.heap.size w wc))
  case first =>
   have H := HC6.out
   clear HC6
   by_cases c20 : (t540 != t553) = true
   ·rw [if_pos c20] at H
    have c20b0 : (t540 != t553) = true := c20
    (try (have c20b1 : decide (t540 = t553) = false := by simpa using c20))
    (try (have c20b2 : (t540 == t553) = false := by simpa using c20))
    (try (have c20b3 : ¬ (t540 = t553) := by simpa using c20))
    clear c20
    (first | rw [c20b0] | (simp only [i64_w, i32_w]; rw [c20b0]) | skip)
    have H' := Aside0.mk H
    clear H
    go_wp2
    go_meet
    case rel => exact ⟨_, (true), (by first | rfl | (simp; done) | (simp [*]; done)), H', ⟨by first | omega | exact Nat.le_refl _⟩, ⟨by (with_reducible repeat (first | apply Kd.R_alloc | apply Kd.R_drewN | apply Kd.R_drew)); exact Kd.R_mono (Kd.R_far (p := ⟨gb554, 3, none⟩) (Kd.R_far (p := ⟨gb554, 2, none⟩) (Kd.R_far (p := ⟨gb554, 1, none⟩) (Kd.R_far (p := ⟨gb554, 0, none⟩) (Kd.R_types HO539.out BK554.out (by decide)) (fun _ hk => hk.2) (.int .i64 t542)) (fun _ hk => hk.2) (.int .i64 t543)) (fun _ hk => hk.2) (.slice Ao18 t544.length co18)) (fun _ hk => hk.2) (.slice Ao19 t547.length co19)) (fun _ hk => trivial)⟩, ⟨by (with_reducible repeat (first | apply Kd.R_alloc | apply Kd.R_drewN | apply Kd.R_drew)); exact Kd.R_mono (Kd.R_far (p := ⟨gb554, 3, none⟩) (Kd.R_far (p := ⟨gb554, 2, none⟩) (Kd.R_far (p := ⟨gb554, 1, none⟩) (Kd.R_far (p := ⟨gb554, 0, none⟩) (Kd.R_types HO533.out BK554.out (by decide)) (fun _ hk => hk.2) (.int .i64 t542)) (fun _ hk => hk.2) (.int .i64 t543)) (fun _ hk => hk.2) (.slice Ao18 t544.length co18)) (fun _ hk => hk.2) (.slice Ao19 t547.length co19)) (fun _ hk => ⟨hk.1.1.1.1, ⟨hk.1.1.2, hk.1.2⟩⟩)⟩, ⟨by (with_reducible repeat (first | apply Kd.R_alloc | apply Kd.R_drewN | apply Kd.R_drew)); exact Kd.R_mono (Kd.R_far (p := ⟨gb554, 3, none⟩) (Kd.R_far (p := ⟨gb554, 2, none⟩) (Kd.R_far (p := ⟨gb554, 1, none⟩) (Kd.R_far (p := ⟨gb554, 0, none⟩) (Kd.R_types HO536.out BK554.out (by decide)) (fun _ hk => hk.2) (.int .i64 t542)) (fun _ hk => hk.2) (.int .i64 t543)) (fun _ hk => hk.2) (.slice Ao18 t544.length co18)) (fun _ hk => hk.2) (.slice Ao19 t547.length co19)) (fun _ hk => ⟨hk.1.1.1.1, ⟨hk.1.1.2, hk.1.2⟩⟩)⟩, ⟨by (with_reducible repeat (first | apply Kd.R_alloc | apply Kd.R_drewN | apply Kd.R_drew)); exact Kd.R_mono (Kd.R_far (p := ⟨gb554, 3, none⟩) (Kd.R_far (p := ⟨gb554, 2, none⟩) (Kd.R_far (p := ⟨gb554, 1, none⟩) (Kd.R_far (p := ⟨gb554, 0, none⟩) (Kd.R_types HO546.out BK554.out (by decide)) (fun _ hk => hk.2) (.int .i64 t542)) (fun _ hk => hk.2) (.int .i64 t543)) (fun _ hk => hk.2) (.slice Ao18 t544.length co18)) (fun _ hk => hk.2) (.slice Ao19 t547.length co19)) (fun _ hk => ⟨hk.1.1.2, ⟨hk.1.2, hk.1.1.1.1⟩⟩)⟩, ⟨by (with_reducible repeat (first | apply Kd.R_alloc | apply Kd.R_drewN | apply Kd.R_drew)); exact Kd.R_mono (Kd.R_far (p := ⟨gb554, 3, none⟩) (Kd.R_far (p := ⟨gb554, 2, none⟩) (Kd.R_far (p := ⟨gb554, 1, none⟩) (Kd.R_far (p := ⟨gb554, 0, none⟩) (Kd.R_types HO549.out BK554.out (by decide)) (fun _ hk => hk.2) (.int .i64 t542)) (fun _ hk => hk.2) (.int .i64 t543)) (fun _ hk => hk.2) (.slice Ao18 t544.length co18)) (fun _ hk => hk.2) (.slice Ao19 t547.length co19)) (fun _ hk => ⟨hk.1.1.2, ⟨hk.1.2, hk.1.1.1.1⟩⟩)⟩, ⟨by (with_reducible repeat (first | refine blk_drewN ?_ _ | refine blk_drew ?_ | refine blk_alloc ?_ _)); refine blk_far ?_ NB541_554.out _; (with_reducible repeat (first | refine blk_drewN ?_ _ | refine blk_drew ?_ | refine blk_alloc ?_ _)); refine blk_far ?_ NB541_554.out _; (with_reducible repeat (first | refine blk_drewN ?_ _ | refine blk_drew ?_ | refine blk_alloc ?_ _)); refine blk_far ?_ NB541_554.out _; (with_reducible repeat (first | refine blk_drewN ?_ _ | refine blk_drew ?_ | refine blk_alloc ?_ _)); refine blk_far ?_ NB541_554.out _; exact bk BK541.out⟩, ⟨by (with_reducible repeat (first | refine blk_drewN ?_ _ | refine blk_drew ?_ | refine blk_alloc ?_ _)); refine blk_put (cs := #[.int .i64 t542, .int .i64 t543, .slice Ao18 t544.length co18, .slice none 0 0]) ?_ 3 _ rfl; (with_reducible repeat (first | refine blk_drewN ?_ _ | refine blk_drew ?_ | refine blk_alloc ?_ _)); refine blk_put (cs := #[.int .i64 t542, .int .i64 t543, .slice none 0 0, .slice none 0 0]) ?_ 2 _ rfl; (with_reducible repeat (first | refine blk_drewN ?_ _ | refine blk_drew ?_ | refine blk_alloc ?_ _)); refine blk_put (cs := #[.int .i64 t542, .int .i64 0, .slice none 0 0, .slice none 0 0]) ?_ 1 _ rfl; (with_reducible repeat (first | refine blk_drewN ?_ _ | refine blk_drew ?_ | refine blk_alloc ?_ _)); refine blk_put (cs := #[.int .i64 0, .int .i64 0, .slice none 0 0, .slice none 0 0]) ?_ 0 _ rfl; exact bk BK554.out⟩, ⟨bl2 HB.out GE541.out GE554.out⟩⟩
   ·rw [if_neg c20] at H
    have c20b0 : (t540 != t553) = false := by simpa using c20
    (try (have c20b1 : decide (t540 = t553) = true := by simpa using c20))
    (try (have c20b2 : (t540 == t553) = true := by simpa using c20))
    clear c20
    (first | rw [c20b0] | (simp only [i64_w, i32_w]; rw [c20b0]) | skip)
    replace H := Option.bind_eq_some_iff.mp H
    obtain ⟨t555, A210, H⟩ := H
    try dsimp only at H
    have A21 := Aside0.mk A210
    clear A210
    by_cases c22 : t555 = true
    ·subst c22
     have H1 : ((laws_sameTexts.f k t537 t550).bind fun t556 => (laws_FnScanned.j0 k t537 t540 (!t556) t529 t530 t531 t534)) = some r := by rw [if_pos rfl] at H; exact H
     clear H
     have H := H1
     clear H1
     replace H := Option.bind_eq_some_iff.mp H
     obtain ⟨t556, A230, H⟩ := H
     try dsimp only at H
     have A23 := Aside0.mk A230
     clear A230
     have H' := Aside0.mk H
     clear H
     have hnb24 := NB541_554.out
     have hnc24 := NB554_541.out
     have hcz25_0 : w15.cell? ⟨gb541, 0, none⟩ = some (.int .i64 t529) := (blk_cell BK541.out 0).trans rfl
     have hcz25_1 : w15.cell? ⟨gb541, 1, none⟩ = some (.int .i64 t530) := (blk_cell BK541.out 1).trans rfl
     have hcz25_2 : w15.cell? ⟨gb541, 2, none⟩ = some (.slice Ao12 t531.length co12) := (blk_cell BK541.out 2).trans rfl
     have hcz25_3 : w15.cell? ⟨gb541, 3, none⟩ = some (.slice Ao13 t534.length co13) := (blk_cell BK541.out 3).trans rfl
     have hfz25_0 := blk_frozen BK541.out 0
     have hfz25_1 := blk_frozen BK541.out 1
     have hfz25_2 := blk_frozen BK541.out 2
     have hfz25_3 := blk_frozen BK541.out 3
     have hcz26_0 : w15.cell? ⟨gb554, 0, none⟩ = some (.int .i64 0) := (blk_cell BK554.out 0).trans rfl
     have hcz26_1 : w15.cell? ⟨gb554, 1, none⟩ = some (.int .i64 0) := (blk_cell BK554.out 1).trans rfl
     have hcz26_2 : w15.cell? ⟨gb554, 2, none⟩ = some (.slice none 0 0) := (blk_cell BK554.out 2).trans rfl
     have hcz26_3 : w15.cell? ⟨gb554, 3, none⟩ = some (.slice none 0 0) := (blk_cell BK554.out 3).trans rfl
     have hfz26_0 := blk_frozen BK554.out 0
     have hfz26_1 := blk_frozen BK554.out 1
     have hfz26_2 := blk_frozen BK554.out 2
     have hfz26_3 := blk_frozen BK554.out 3
     go_wp2_with (first | (go_at_call 19; (with_reducible refine (laws_sameCaches.calls k t529 t530 _ _ t531 _ _ t534 t542 t543 _ _ t544 _ _ t547 true _ ?side1 ?side2 ?side3 ?side4 ?side5 ?side6 ?side7 ?side8 A21.out).mono ?_); (case side1 => refine (Kd.R_reads' (e := 45) (base := w.heap.size) (ok := fun k_ => (((some k_ ≠ (.slice Ao13 t534.length co13 : Value).ownBlock ∧ some k_ ≠ (.slice Ao8 t526.length co8 : Value).ownBlock) ∧ some k_ ≠ (.slice Ao18 t544.length co18 : Value).ownBlock) ∧ some k_ ≠ (.slice Ao19 t547.length co19 : Value).ownBlock)) (n := t531.length) (c := co12) ?_).2.2; exact (by (with_reducible repeat (first | apply Kd.R_alloc | apply Kd.R_drewN | apply Kd.R_drew)); exact (Kd.R_mono (Kd.R_far (p := ⟨gb554, 3, none⟩) (Kd.R_far (p := ⟨gb554, 2, none⟩) (Kd.R_far (p := ⟨gb554, 1, none⟩) (Kd.R_far (p := ⟨gb554, 0, none⟩) (Kd.R_types HO533.out BK554.out (by decide)) (fun _ hk => hk.2) (.int .i64 t542)) (fun _ hk => hk.2) (.int .i64 t543)) (fun _ hk => hk.2) (.slice Ao18 t544.length co18)) (fun _ hk => hk.2) (.slice Ao19 t547.length co19)) (fun _ h_ => h_.1)))); (case side2 => exact (Kd.R_reads' HO533.out).2.1); (case side3 => refine (Kd.R_reads' (e := 45) (base := w.heap.size) (ok := fun k_ => (((some k_ ≠ (.slice Ao12 t531.length co12 : Value).ownBlock ∧ some k_ ≠ (.slice Ao8 t526.length co8 : Value).ownBlock) ∧ some k_ ≠ (.slice Ao18 t544.length co18 : Value).ownBlock) ∧ some k_ ≠ (.slice Ao19 t547.length co19 : Value).ownBlock)) (n := t534.length) (c := co13) ?_).2.2; exact (by (with_reducible repeat (first | apply Kd.R_alloc | apply Kd.R_drewN | apply Kd.R_drew)); exact (Kd.R_mono (Kd.R_far (p := ⟨gb554, 3, none⟩) (Kd.R_far (p := ⟨gb554, 2, none⟩) (Kd.R_far (p := ⟨gb554, 1, none⟩) (Kd.R_far (p := ⟨gb554, 0, none⟩) (Kd.R_types HO536.out BK554.out (by decide)) (fun _ hk => hk.2) (.int .i64 t542)) (fun _ hk => hk.2) (.int .i64 t543)) (fun _ hk => hk.2) (.slice Ao18 t544.length co18)) (fun _ hk => hk.2) (.slice Ao19 t547.length co19)) (fun _ h_ => h_.1)))); (case side4 => exact (Kd.R_reads' HO536.out).2.1); (case side5 => refine (Kd.R_reads' (e := 45) (base := w.heap.size) (ok := fun k_ => (((some k_ ≠ (.slice Ao19 t547.length co19 : Value).ownBlock ∧ some k_ ≠ (.slice Ao8 t526.length co8 : Value).ownBlock) ∧ some k_ ≠ (.slice Ao12 t531.length co12 : Value).ownBlock) ∧ some k_ ≠ (.slice Ao13 t534.length co13 : Value).ownBlock)) (n := t544.length) (c := co18) ?_).2.2; exact (by (with_reducible repeat (first | apply Kd.R_alloc | apply Kd.R_drewN | apply Kd.R_drew)); exact (Kd.R_mono (Kd.R_far (p := ⟨gb554, 3, none⟩) (Kd.R_far (p := ⟨gb554, 2, none⟩) (Kd.R_far (p := ⟨gb554, 1, none⟩) (Kd.R_far (p := ⟨gb554, 0, none⟩) (Kd.R_types HO546.out BK554.out (by decide)) (fun _ hk => hk.2) (.int .i64 t542)) (fun _ hk => hk.2) (.int .i64 t543)) (fun _ hk => hk.2) (.slice Ao18 t544.length co18)) (fun _ hk => hk.2) (.slice Ao19 t547.length co19)) (fun _ h_ => h_.1)))); (case side6 => exact (Kd.R_reads' HO546.out).2.1); (case side7 => refine (Kd.R_reads' (e := 45) (base := w.heap.size) (ok := fun k_ => (((some k_ ≠ (.slice Ao18 t544.length co18 : Value).ownBlock ∧ some k_ ≠ (.slice Ao8 t526.length co8 : Value).ownBlock) ∧ some k_ ≠ (.slice Ao12 t531.length co12 : Value).ownBlock) ∧ some k_ ≠ (.slice Ao13 t534.length co13 : Value).ownBlock)) (n := t547.length) (c := co19) ?_).2.2; exact (by (with_reducible repeat (first | apply Kd.R_alloc | apply Kd.R_drewN | apply Kd.R_drew)); exact (Kd.R_mono (Kd.R_far (p := ⟨gb554, 3, none⟩) (Kd.R_far (p := ⟨gb554, 2, none⟩) (Kd.R_far (p := ⟨gb554, 1, none⟩) (Kd.R_far (p := ⟨gb554, 0, none⟩) (Kd.R_types HO549.out BK554.out (by decide)) (fun _ hk => hk.2) (.int .i64 t542)) (fun _ hk => hk.2) (.int .i64 t543)) (fun _ hk => hk.2) (.slice Ao18 t544.length co18)) (fun _ hk => hk.2) (.slice Ao19 t547.length co19)) (fun _ h_ => h_.1)))); (case side8 => exact (Kd.R_reads' HO549.out).2.1); rintro e w27 ⟨rfl, hb⟩; have n0_ := Aside0.mk (Kd.R_below (by (with_reducible repeat (first | apply Kd.R_alloc | apply Kd.R_drewN | apply Kd.R_drew)); exact (Kd.R_mono (Kd.R_far (p := ⟨gb554, 3, none⟩) (Kd.R_far (p := ⟨gb554, 2, none⟩) (Kd.R_far (p := ⟨gb554, 1, none⟩) (Kd.R_far (p := ⟨gb554, 0, none⟩) (Kd.R_types HO528.out BK554.out (by decide)) (fun _ hk => hk.2) (.int .i64 t542)) (fun _ hk => hk.2) (.int .i64 t543)) (fun _ hk => hk.2) (.slice Ao18 t544.length co18)) (fun _ hk => hk.2) (.slice Ao19 t547.length co19)) (fun _ h_ => h_.1))) hb); have n1_ := Aside0.mk (Kd.R_below (by (with_reducible repeat (first | apply Kd.R_alloc | apply Kd.R_drewN | apply Kd.R_drew)); exact (Kd.R_mono (Kd.R_far (p := ⟨gb554, 3, none⟩) (Kd.R_far (p := ⟨gb554, 2, none⟩) (Kd.R_far (p := ⟨gb554, 1, none⟩) (Kd.R_far (p := ⟨gb554, 0, none⟩) (Kd.R_types HO533.out BK554.out (by decide)) (fun _ hk => hk.2) (.int .i64 t542)) (fun _ hk => hk.2) (.int .i64 t543)) (fun _ hk => hk.2) (.slice Ao18 t544.length co18)) (fun _ hk => hk.2) (.slice Ao19 t547.length co19)) (fun _ h_ => h_.1))) hb); have n2_ := Aside0.mk (Kd.R_below (by (with_reducible repeat (first | apply Kd.R_alloc | apply Kd.R_drewN | apply Kd.R_drew)); exact (Kd.R_mono (Kd.R_far (p := ⟨gb554, 3, none⟩) (Kd.R_far (p := ⟨gb554, 2, none⟩) (Kd.R_far (p := ⟨gb554, 1, none⟩) (Kd.R_far (p := ⟨gb554, 0, none⟩) (Kd.R_types HO536.out BK554.out (by decide)) (fun _ hk => hk.2) (.int .i64 t542)) (fun _ hk => hk.2) (.int .i64 t543)) (fun _ hk => hk.2) (.slice Ao18 t544.length co18)) (fun _ hk => hk.2) (.slice Ao19 t547.length co19)) (fun _ h_ => h_.1))) hb); have n3_ := Aside0.mk (Kd.R_below (by (with_reducible repeat (first | apply Kd.R_alloc | apply Kd.R_drewN | apply Kd.R_drew)); exact (Kd.R_mono (Kd.R_far (p := ⟨gb554, 3, none⟩) (Kd.R_far (p := ⟨gb554, 2, none⟩) (Kd.R_far (p := ⟨gb554, 1, none⟩) (Kd.R_far (p := ⟨gb554, 0, none⟩) (Kd.R_types HO539.out BK554.out (by decide)) (fun _ hk => hk.2) (.int .i64 t542)) (fun _ hk => hk.2) (.int .i64 t543)) (fun _ hk => hk.2) (.slice Ao18 t544.length co18)) (fun _ hk => hk.2) (.slice Ao19 t547.length co19)) (fun _ h_ => h_.1))) hb); have n4_ := Aside0.mk (Kd.R_below (by (with_reducible repeat (first | apply Kd.R_alloc | apply Kd.R_drewN | apply Kd.R_drew)); exact (Kd.R_mono (Kd.R_far (p := ⟨gb554, 3, none⟩) (Kd.R_far (p := ⟨gb554, 2, none⟩) (Kd.R_far (p := ⟨gb554, 1, none⟩) (Kd.R_far (p := ⟨gb554, 0, none⟩) (Kd.R_types HO546.out BK554.out (by decide)) (fun _ hk => hk.2) (.int .i64 t542)) (fun _ hk => hk.2) (.int .i64 t543)) (fun _ hk => hk.2) (.slice Ao18 t544.length co18)) (fun _ hk => hk.2) (.slice Ao19 t547.length co19)) (fun _ h_ => h_.1))) hb); have n5_ := Aside0.mk (Kd.R_below (by (with_reducible repeat (first | apply Kd.R_alloc | apply Kd.R_drewN | apply Kd.R_drew)); exact (Kd.R_mono (Kd.R_far (p := ⟨gb554, 3, none⟩) (Kd.R_far (p := ⟨gb554, 2, none⟩) (Kd.R_far (p := ⟨gb554, 1, none⟩) (Kd.R_far (p := ⟨gb554, 0, none⟩) (Kd.R_types HO549.out BK554.out (by decide)) (fun _ hk => hk.2) (.int .i64 t542)) (fun _ hk => hk.2) (.int .i64 t543)) (fun _ hk => hk.2) (.slice Ao18 t544.length co18)) (fun _ hk => hk.2) (.slice Ao19 t547.length co19)) (fun _ h_ => h_.1))) hb); have n6_ := Aside0.mk (Kd.R_below (by (with_reducible repeat (first | apply Kd.R_alloc | apply Kd.R_drewN | apply Kd.R_drew)); exact (Kd.R_mono (Kd.R_far (p := ⟨gb554, 3, none⟩) (Kd.R_far (p := ⟨gb554, 2, none⟩) (Kd.R_far (p := ⟨gb554, 1, none⟩) (Kd.R_far (p := ⟨gb554, 0, none⟩) (Kd.R_types HO552.out BK554.out (by decide)) (fun _ hk => hk.2) (.int .i64 t542)) (fun _ hk => hk.2) (.int .i64 t543)) (fun _ hk => hk.2) (.slice Ao18 t544.length co18)) (fun _ hk => hk.2) (.slice Ao19 t547.length co19)) (fun _ h_ => h_.1))) hb); have n7_ := Aside0.mk (blk_below (g := gb541) (o := .cells #[.int .i64 t529, .int .i64 t530, .slice Ao12 t531.length co12, .slice Ao13 t534.length co13] 28 (0, 0)) (by (with_reducible repeat (first | refine blk_drewN ?_ _ | refine blk_drew ?_ | refine blk_alloc ?_ _)); refine blk_far ?_ NB541_554.out _; (with_reducible repeat (first | refine blk_drewN ?_ _ | refine blk_drew ?_ | refine blk_alloc ?_ _)); refine blk_far ?_ NB541_554.out _; (with_reducible repeat (first | refine blk_drewN ?_ _ | refine blk_drew ?_ | refine blk_alloc ?_ _)); refine blk_far ?_ NB541_554.out _; (with_reducible repeat (first | refine blk_drewN ?_ _ | refine blk_drew ?_ | refine blk_alloc ?_ _)); refine blk_far ?_ NB541_554.out _; exact bk BK541.out) hb); have n8_ := Aside0.mk (blk_below (g := gb554) (o := .cells #[.int .i64 t542, .int .i64 t543, .slice Ao18 t544.length co18, .slice Ao19 t547.length co19] 28 (0, 0)) (by (with_reducible repeat (first | refine blk_drewN ?_ _ | refine blk_drew ?_ | refine blk_alloc ?_ _)); refine blk_put (cs := #[.int .i64 t542, .int .i64 t543, .slice Ao18 t544.length co18, .slice none 0 0]) ?_ 3 _ rfl; (with_reducible repeat (first | refine blk_drewN ?_ _ | refine blk_drew ?_ | refine blk_alloc ?_ _)); refine blk_put (cs := #[.int .i64 t542, .int .i64 t543, .slice none 0 0, .slice none 0 0]) ?_ 2 _ rfl; (with_reducible repeat (first | refine blk_drewN ?_ _ | refine blk_drew ?_ | refine blk_alloc ?_ _)); refine blk_put (cs := #[.int .i64 t542, .int .i64 0, .slice none 0 0, .slice none 0 0]) ?_ 1 _ rfl; (with_reducible repeat (first | refine blk_drewN ?_ _ | refine blk_drew ?_ | refine blk_alloc ?_ _)); refine blk_put (cs := #[.int .i64 0, .int .i64 0, .slice none 0 0, .slice none 0 0]) ?_ 0 _ rfl; exact bk BK554.out) hb); have n9_ := Aside0.mk (below_step (bl2 HB.out GE541.out GE554.out) hb); clear HO528; clear HO533; clear HO536; clear HO539; clear HO546; clear HO549; clear HO552; clear BK541; clear BK554; clear HB; have HO528 := n0_; have HO533 := n1_; have HO536 := n2_; have HO539 := n3_; have HO546 := n4_; have HO549 := n5_; have HO552 := n6_; have BK541 := n7_; have BK554 := n8_; have HB := n9_; clear n0_ n1_ n2_ n3_ n4_ n5_ n6_ n7_ n8_ n9_; (try clear hb); (try clear hb2); (try clear hk); (try clear hi); obtain ⟨Ao28, co28, eo28⟩ := Kd.R_slice HO539.out; subst eo28; obtain ⟨Ao29, co29, eo29⟩ := Kd.R_slice HO552.out; subst eo29) | (go_at_call 20; (with_reducible refine (laws_sameTexts.calls k _ _ t537 _ _ t550 t556 _ ?side1 ?side2 ?side3 ?side4 A23.out).mono ?_); (case side1 => exact kc (Kd.R_reads' HO539.out).2.2); (case side2 => exact (Kd.R_reads' HO539.out).2.1); (case side3 => exact kc (Kd.R_reads' HO552.out).2.2); (case side4 => exact (Kd.R_reads' HO552.out).2.1); rintro e w' ⟨rfl, ⟨nd, rfl⟩⟩))
     go_meet
     case rel => exact ⟨_, (!t556), (by first | rfl | (simp; done) | (simp [*]; done)), H', ⟨by first | omega | exact Nat.le_refl _⟩, ⟨by (with_reducible repeat (first | apply Kd.R_alloc | apply Kd.R_drewN | apply Kd.R_drew)); exact Kd.R_mono HO539.out (fun _ hk => trivial)⟩, ⟨by (with_reducible repeat (first | apply Kd.R_alloc | apply Kd.R_drewN | apply Kd.R_drew)); exact Kd.R_mono HO533.out (fun _ hk => ⟨hk.1.1.1, ⟨hk.1.2, hk.2⟩⟩)⟩, ⟨by (with_reducible repeat (first | apply Kd.R_alloc | apply Kd.R_drewN | apply Kd.R_drew)); exact Kd.R_mono HO536.out (fun _ hk => ⟨hk.1.1.1, ⟨hk.1.2, hk.2⟩⟩)⟩, ⟨by (with_reducible repeat (first | apply Kd.R_alloc | apply Kd.R_drewN | apply Kd.R_drew)); exact Kd.R_mono HO546.out (fun _ hk => ⟨hk.1.2, ⟨hk.2, hk.1.1.1⟩⟩)⟩, ⟨by (with_reducible repeat (first | apply Kd.R_alloc | apply Kd.R_drewN | apply Kd.R_drew)); exact Kd.R_mono HO549.out (fun _ hk => ⟨hk.1.2, ⟨hk.2, hk.1.1.1⟩⟩)⟩, ⟨bk BK541.out⟩, ⟨bk BK554.out⟩, ⟨bl2 HB.out GE541.out GE554.out⟩⟩
    ·replace c22 := Bool.eq_false_iff.mpr c22
     subst c22
     have H1 : (laws_FnScanned.j0 k t537 t540 true t529 t530 t531 t534) = some r := by rw [if_neg (show ¬ (false = true) by decide)] at H; exact H
     clear H
     have H := H1
     clear H1
     have H' := Aside0.mk H
     clear H
     have hnb30 := NB541_554.out
     have hnc30 := NB554_541.out
     have hcz31_0 : w15.cell? ⟨gb541, 0, none⟩ = some (.int .i64 t529) := (blk_cell BK541.out 0).trans rfl
     have hcz31_1 : w15.cell? ⟨gb541, 1, none⟩ = some (.int .i64 t530) := (blk_cell BK541.out 1).trans rfl
     have hcz31_2 : w15.cell? ⟨gb541, 2, none⟩ = some (.slice Ao12 t531.length co12) := (blk_cell BK541.out 2).trans rfl
     have hcz31_3 : w15.cell? ⟨gb541, 3, none⟩ = some (.slice Ao13 t534.length co13) := (blk_cell BK541.out 3).trans rfl
     have hfz31_0 := blk_frozen BK541.out 0
     have hfz31_1 := blk_frozen BK541.out 1
     have hfz31_2 := blk_frozen BK541.out 2
     have hfz31_3 := blk_frozen BK541.out 3
     have hcz32_0 : w15.cell? ⟨gb554, 0, none⟩ = some (.int .i64 0) := (blk_cell BK554.out 0).trans rfl
     have hcz32_1 : w15.cell? ⟨gb554, 1, none⟩ = some (.int .i64 0) := (blk_cell BK554.out 1).trans rfl
     have hcz32_2 : w15.cell? ⟨gb554, 2, none⟩ = some (.slice none 0 0) := (blk_cell BK554.out 2).trans rfl
     have hcz32_3 : w15.cell? ⟨gb554, 3, none⟩ = some (.slice none 0 0) := (blk_cell BK554.out 3).trans rfl
     have hfz32_0 := blk_frozen BK554.out 0
     have hfz32_1 := blk_frozen BK554.out 1
     have hfz32_2 := blk_frozen BK554.out 2
     have hfz32_3 := blk_frozen BK554.out 3
     go_wp2_with (first | (go_at_call 19; (with_reducible refine (laws_sameCaches.calls k t529 t530 _ _ t531 _ _ t534 t542 t543 _ _ t544 _ _ t547 false _ ?side1 ?side2 ?side3 ?side4 ?side5 ?side6 ?side7 ?side8 A21.out).mono ?_); (case side1 => refine (Kd.R_reads' (e := 45) (base := w.heap.size) (ok := fun k_ => (((some k_ ≠ (.slice Ao13 t534.length co13 : Value).ownBlock ∧ some k_ ≠ (.slice Ao8 t526.length co8 : Value).ownBlock) ∧ some k_ ≠ (.slice Ao18 t544.length co18 : Value).ownBlock) ∧ some k_ ≠ (.slice Ao19 t547.length co19 : Value).ownBlock)) (n := t531.length) (c := co12) ?_).2.2; exact (by (with_reducible repeat (first | apply Kd.R_alloc | apply Kd.R_drewN | apply Kd.R_drew)); exact (Kd.R_mono (Kd.R_far (p := ⟨gb554, 3, none⟩) (Kd.R_far (p := ⟨gb554, 2, none⟩) (Kd.R_far (p := ⟨gb554, 1, none⟩) (Kd.R_far (p := ⟨gb554, 0, none⟩) (Kd.R_types HO533.out BK554.out (by decide)) (fun _ hk => hk.2) (.int .i64 t542)) (fun _ hk => hk.2) (.int .i64 t543)) (fun _ hk => hk.2) (.slice Ao18 t544.length co18)) (fun _ hk => hk.2) (.slice Ao19 t547.length co19)) (fun _ h_ => h_.1)))); (case side2 => exact (Kd.R_reads' HO533.out).2.1); (case side3 => refine (Kd.R_reads' (e := 45) (base := w.heap.size) (ok := fun k_ => (((some k_ ≠ (.slice Ao12 t531.length co12 : Value).ownBlock ∧ some k_ ≠ (.slice Ao8 t526.length co8 : Value).ownBlock) ∧ some k_ ≠ (.slice Ao18 t544.length co18 : Value).ownBlock) ∧ some k_ ≠ (.slice Ao19 t547.length co19 : Value).ownBlock)) (n := t534.length) (c := co13) ?_).2.2; exact (by (with_reducible repeat (first | apply Kd.R_alloc | apply Kd.R_drewN | apply Kd.R_drew)); exact (Kd.R_mono (Kd.R_far (p := ⟨gb554, 3, none⟩) (Kd.R_far (p := ⟨gb554, 2, none⟩) (Kd.R_far (p := ⟨gb554, 1, none⟩) (Kd.R_far (p := ⟨gb554, 0, none⟩) (Kd.R_types HO536.out BK554.out (by decide)) (fun _ hk => hk.2) (.int .i64 t542)) (fun _ hk => hk.2) (.int .i64 t543)) (fun _ hk => hk.2) (.slice Ao18 t544.length co18)) (fun _ hk => hk.2) (.slice Ao19 t547.length co19)) (fun _ h_ => h_.1)))); (case side4 => exact (Kd.R_reads' HO536.out).2.1); (case side5 => refine (Kd.R_reads' (e := 45) (base := w.heap.size) (ok := fun k_ => (((some k_ ≠ (.slice Ao19 t547.length co19 : Value).ownBlock ∧ some k_ ≠ (.slice Ao8 t526.length co8 : Value).ownBlock) ∧ some k_ ≠ (.slice Ao12 t531.length co12 : Value).ownBlock) ∧ some k_ ≠ (.slice Ao13 t534.length co13 : Value).ownBlock)) (n := t544.length) (c := co18) ?_).2.2; exact (by (with_reducible repeat (first | apply Kd.R_alloc | apply Kd.R_drewN | apply Kd.R_drew)); exact (Kd.R_mono (Kd.R_far (p := ⟨gb554, 3, none⟩) (Kd.R_far (p := ⟨gb554, 2, none⟩) (Kd.R_far (p := ⟨gb554, 1, none⟩) (Kd.R_far (p := ⟨gb554, 0, none⟩) (Kd.R_types HO546.out BK554.out (by decide)) (fun _ hk => hk.2) (.int .i64 t542)) (fun _ hk => hk.2) (.int .i64 t543)) (fun _ hk => hk.2) (.slice Ao18 t544.length co18)) (fun _ hk => hk.2) (.slice Ao19 t547.length co19)) (fun _ h_ => h_.1)))); (case side6 => exact (Kd.R_reads' HO546.out).2.1); (case side7 => refine (Kd.R_reads' (e := 45) (base := w.heap.size) (ok := fun k_ => (((some k_ ≠ (.slice Ao18 t544.length co18 : Value).ownBlock ∧ some k_ ≠ (.slice Ao8 t526.length co8 : Value).ownBlock) ∧ some k_ ≠ (.slice Ao12 t531.length co12 : Value).ownBlock) ∧ some k_ ≠ (.slice Ao13 t534.length co13 : Value).ownBlock)) (n := t547.length) (c := co19) ?_).2.2; exact (by (with_reducible repeat (first | apply Kd.R_alloc | apply Kd.R_drewN | apply Kd.R_drew)); exact (Kd.R_mono (Kd.R_far (p := ⟨gb554, 3, none⟩) (Kd.R_far (p := ⟨gb554, 2, none⟩) (Kd.R_far (p := ⟨gb554, 1, none⟩) (Kd.R_far (p := ⟨gb554, 0, none⟩) (Kd.R_types HO549.out BK554.out (by decide)) (fun _ hk => hk.2) (.int .i64 t542)) (fun _ hk => hk.2) (.int .i64 t543)) (fun _ hk => hk.2) (.slice Ao18 t544.length co18)) (fun _ hk => hk.2) (.slice Ao19 t547.length co19)) (fun _ h_ => h_.1)))); (case side8 => exact (Kd.R_reads' HO549.out).2.1); rintro e w33 ⟨rfl, hb⟩; have n0_ := Aside0.mk (Kd.R_below (by (with_reducible repeat (first | apply Kd.R_alloc | apply Kd.R_drewN | apply Kd.R_drew)); exact (Kd.R_mono (Kd.R_far (p := ⟨gb554, 3, none⟩) (Kd.R_far (p := ⟨gb554, 2, none⟩) (Kd.R_far (p := ⟨gb554, 1, none⟩) (Kd.R_far (p := ⟨gb554, 0, none⟩) (Kd.R_types HO528.out BK554.out (by decide)) (fun _ hk => hk.2) (.int .i64 t542)) (fun _ hk => hk.2) (.int .i64 t543)) (fun _ hk => hk.2) (.slice Ao18 t544.length co18)) (fun _ hk => hk.2) (.slice Ao19 t547.length co19)) (fun _ h_ => h_.1))) hb); have n1_ := Aside0.mk (Kd.R_below (by (with_reducible repeat (first | apply Kd.R_alloc | apply Kd.R_drewN | apply Kd.R_drew)); exact (Kd.R_mono (Kd.R_far (p := ⟨gb554, 3, none⟩) (Kd.R_far (p := ⟨gb554, 2, none⟩) (Kd.R_far (p := ⟨gb554, 1, none⟩) (Kd.R_far (p := ⟨gb554, 0, none⟩) (Kd.R_types HO533.out BK554.out (by decide)) (fun _ hk => hk.2) (.int .i64 t542)) (fun _ hk => hk.2) (.int .i64 t543)) (fun _ hk => hk.2) (.slice Ao18 t544.length co18)) (fun _ hk => hk.2) (.slice Ao19 t547.length co19)) (fun _ h_ => h_.1))) hb); have n2_ := Aside0.mk (Kd.R_below (by (with_reducible repeat (first | apply Kd.R_alloc | apply Kd.R_drewN | apply Kd.R_drew)); exact (Kd.R_mono (Kd.R_far (p := ⟨gb554, 3, none⟩) (Kd.R_far (p := ⟨gb554, 2, none⟩) (Kd.R_far (p := ⟨gb554, 1, none⟩) (Kd.R_far (p := ⟨gb554, 0, none⟩) (Kd.R_types HO536.out BK554.out (by decide)) (fun _ hk => hk.2) (.int .i64 t542)) (fun _ hk => hk.2) (.int .i64 t543)) (fun _ hk => hk.2) (.slice Ao18 t544.length co18)) (fun _ hk => hk.2) (.slice Ao19 t547.length co19)) (fun _ h_ => h_.1))) hb); have n3_ := Aside0.mk (Kd.R_below (by (with_reducible repeat (first | apply Kd.R_alloc | apply Kd.R_drewN | apply Kd.R_drew)); exact (Kd.R_mono (Kd.R_far (p := ⟨gb554, 3, none⟩) (Kd.R_far (p := ⟨gb554, 2, none⟩) (Kd.R_far (p := ⟨gb554, 1, none⟩) (Kd.R_far (p := ⟨gb554, 0, none⟩) (Kd.R_types HO539.out BK554.out (by decide)) (fun _ hk => hk.2) (.int .i64 t542)) (fun _ hk => hk.2) (.int .i64 t543)) (fun _ hk => hk.2) (.slice Ao18 t544.length co18)) (fun _ hk => hk.2) (.slice Ao19 t547.length co19)) (fun _ h_ => h_.1))) hb); have n4_ := Aside0.mk (Kd.R_below (by (with_reducible repeat (first | apply Kd.R_alloc | apply Kd.R_drewN | apply Kd.R_drew)); exact (Kd.R_mono (Kd.R_far (p := ⟨gb554, 3, none⟩) (Kd.R_far (p := ⟨gb554, 2, none⟩) (Kd.R_far (p := ⟨gb554, 1, none⟩) (Kd.R_far (p := ⟨gb554, 0, none⟩) (Kd.R_types HO546.out BK554.out (by decide)) (fun _ hk => hk.2) (.int .i64 t542)) (fun _ hk => hk.2) (.int .i64 t543)) (fun _ hk => hk.2) (.slice Ao18 t544.length co18)) (fun _ hk => hk.2) (.slice Ao19 t547.length co19)) (fun _ h_ => h_.1))) hb); have n5_ := Aside0.mk (Kd.R_below (by (with_reducible repeat (first | apply Kd.R_alloc | apply Kd.R_drewN | apply Kd.R_drew)); exact (Kd.R_mono (Kd.R_far (p := ⟨gb554, 3, none⟩) (Kd.R_far (p := ⟨gb554, 2, none⟩) (Kd.R_far (p := ⟨gb554, 1, none⟩) (Kd.R_far (p := ⟨gb554, 0, none⟩) (Kd.R_types HO549.out BK554.out (by decide)) (fun _ hk => hk.2) (.int .i64 t542)) (fun _ hk => hk.2) (.int .i64 t543)) (fun _ hk => hk.2) (.slice Ao18 t544.length co18)) (fun _ hk => hk.2) (.slice Ao19 t547.length co19)) (fun _ h_ => h_.1))) hb); have n6_ := Aside0.mk (Kd.R_below (by (with_reducible repeat (first | apply Kd.R_alloc | apply Kd.R_drewN | apply Kd.R_drew)); exact (Kd.R_mono (Kd.R_far (p := ⟨gb554, 3, none⟩) (Kd.R_far (p := ⟨gb554, 2, none⟩) (Kd.R_far (p := ⟨gb554, 1, none⟩) (Kd.R_far (p := ⟨gb554, 0, none⟩) (Kd.R_types HO552.out BK554.out (by decide)) (fun _ hk => hk.2) (.int .i64 t542)) (fun _ hk => hk.2) (.int .i64 t543)) (fun _ hk => hk.2) (.slice Ao18 t544.length co18)) (fun _ hk => hk.2) (.slice Ao19 t547.length co19)) (fun _ h_ => h_.1))) hb); have n7_ := Aside0.mk (blk_below (g := gb541) (o := .cells #[.int .i64 t529, .int .i64 t530, .slice Ao12 t531.length co12, .slice Ao13 t534.length co13] 28 (0, 0)) (by (with_reducible repeat (first | refine blk_drewN ?_ _ | refine blk_drew ?_ | refine blk_alloc ?_ _)); refine blk_far ?_ NB541_554.out _; (with_reducible repeat (first | refine blk_drewN ?_ _ | refine blk_drew ?_ | refine blk_alloc ?_ _)); refine blk_far ?_ NB541_554.out _; (with_reducible repeat (first | refine blk_drewN ?_ _ | refine blk_drew ?_ | refine blk_alloc ?_ _)); refine blk_far ?_ NB541_554.out _; (with_reducible repeat (first | refine blk_drewN ?_ _ | refine blk_drew ?_ | refine blk_alloc ?_ _)); refine blk_far ?_ NB541_554.out _; exact bk BK541.out) hb); have n8_ := Aside0.mk (blk_below (g := gb554) (o := .cells #[.int .i64 t542, .int .i64 t543, .slice Ao18 t544.length co18, .slice Ao19 t547.length co19] 28 (0, 0)) (by (with_reducible repeat (first | refine blk_drewN ?_ _ | refine blk_drew ?_ | refine blk_alloc ?_ _)); refine blk_put (cs := #[.int .i64 t542, .int .i64 t543, .slice Ao18 t544.length co18, .slice none 0 0]) ?_ 3 _ rfl; (with_reducible repeat (first | refine blk_drewN ?_ _ | refine blk_drew ?_ | refine blk_alloc ?_ _)); refine blk_put (cs := #[.int .i64 t542, .int .i64 t543, .slice none 0 0, .slice none 0 0]) ?_ 2 _ rfl; (with_reducible repeat (first | refine blk_drewN ?_ _ | refine blk_drew ?_ | refine blk_alloc ?_ _)); refine blk_put (cs := #[.int .i64 t542, .int .i64 0, .slice none 0 0, .slice none 0 0]) ?_ 1 _ rfl; (with_reducible repeat (first | refine blk_drewN ?_ _ | refine blk_drew ?_ | refine blk_alloc ?_ _)); refine blk_put (cs := #[.int .i64 0, .int .i64 0, .slice none 0 0, .slice none 0 0]) ?_ 0 _ rfl; exact bk BK554.out) hb); have n9_ := Aside0.mk (below_step (bl2 HB.out GE541.out GE554.out) hb); clear HO528; clear HO533; clear HO536; clear HO539; clear HO546; clear HO549; clear HO552; clear BK541; clear BK554; clear HB; have HO528 := n0_; have HO533 := n1_; have HO536 := n2_; have HO539 := n3_; have HO546 := n4_; have HO549 := n5_; have HO552 := n6_; have BK541 := n7_; have BK554 := n8_; have HB := n9_; clear n0_ n1_ n2_ n3_ n4_ n5_ n6_ n7_ n8_ n9_; (try clear hb); (try clear hb2); (try clear hk); (try clear hi)))
     go_meet
     case rel => exact ⟨_, (true), (by first | rfl | (simp; done) | (simp [*]; done)), H', ⟨by first | omega | exact Nat.le_refl _⟩, ⟨by (with_reducible repeat (first | apply Kd.R_alloc | apply Kd.R_drewN | apply Kd.R_drew)); exact Kd.R_mono HO539.out (fun _ hk => trivial)⟩, ⟨by (with_reducible repeat (first | apply Kd.R_alloc | apply Kd.R_drewN | apply Kd.R_drew)); exact Kd.R_mono HO533.out (fun _ hk => ⟨hk.1.1.1, ⟨hk.1.2, hk.2⟩⟩)⟩, ⟨by (with_reducible repeat (first | apply Kd.R_alloc | apply Kd.R_drewN | apply Kd.R_drew)); exact Kd.R_mono HO536.out (fun _ hk => ⟨hk.1.1.1, ⟨hk.1.2, hk.2⟩⟩)⟩, ⟨by (with_reducible repeat (first | apply Kd.R_alloc | apply Kd.R_drewN | apply Kd.R_drew)); exact Kd.R_mono HO546.out (fun _ hk => ⟨hk.1.2, ⟨hk.2, hk.1.1.1⟩⟩)⟩, ⟨by (with_reducible repeat (first | apply Kd.R_alloc | apply Kd.R_drewN | apply Kd.R_drew)); exact Kd.R_mono HO549.out (fun _ hk => ⟨hk.1.2, ⟨hk.2, hk.1.1.1⟩⟩)⟩, ⟨bk BK541.out⟩, ⟨bk BK554.out⟩, ⟨bl2 HB.out GE541.out GE554.out⟩⟩
  case rest =>
   clear HC6
   try clear c1
   try clear c2
   try clear c2b0
   try clear c2b1
   try clear p2
   try clear c3
   try clear c4
   try clear c16
   try clear c17
   try clear c18
   try clear c20
   try clear c20b0
   try clear c20b1
   try clear c20b2
   try clear c22
   try clear c24
   try clear c30
   try clear hcz11_0
   try clear hcz11_1
   try clear hcz11_2
   try clear hcz11_3
   try clear hcz17_0
   try clear hcz17_1
   try clear hcz17_2
   try clear hcz17_3
   try clear hcz25_0
   try clear hcz25_1
   try clear hcz25_2
   try clear hcz25_3
   try clear hcz26_0
   try clear hcz26_1
   try clear hcz26_2
   try clear hcz26_3
   try clear hcz31_0
   try clear hcz31_1
   try clear hcz31_2
   try clear hcz31_3
   try clear hcz32_0
   try clear hcz32_1
   try clear hcz32_2
   try clear hcz32_3
   try clear hfz11_0
   try clear hfz11_1
   try clear hfz11_2
   try clear hfz11_3
   try clear hfz17_0
   try clear hfz17_1
   try clear hfz17_2
   try clear hfz17_3
   try clear hfz25_0
   try clear hfz25_1
   try clear hfz25_2
   try clear hfz25_3
   try clear hfz26_0
   try clear hfz26_1
   try clear hfz26_2
   try clear hfz26_3
   try clear hfz31_0
   try clear hfz31_1
   try clear hfz31_2
   try clear hfz31_3
   try clear hfz32_0
   try clear hfz32_1
   try clear hfz32_2
   try clear hfz32_3
   obtain ⟨kq, x57_5, rfl, HA, HJ5, HO_7, HO_542002, HO_542003, HO_555002, HO_555003, BK541, BK554, HB⟩ := hcut
   cases kq with
   | zero => exact absurd HA.out (by simp [laws_FnScanned.j0])
   | succ kj5 =>
    have H := HA.out
    clear HA
    simp only [laws_FnScanned.j0] at H
    by_cases c34 : x57_5 = true
    ·subst c34
     have H1 : (none) = some r := by rw [if_pos rfl] at H; exact H
     clear H
     have H := H1
     clear H1
     exact absurd H (by simp)
    ·replace c34 := Bool.eq_false_iff.mpr c34
     subst c34
     have H1 : (if t540 = true then ((some (([(⟨#[110, 49]⟩ : ByteArray), (⟨#[110, 50]⟩ : ByteArray), (⟨#[110, 51]⟩ : ByteArray), (⟨#[110, 52]⟩ : ByteArray), (⟨#[110, 53]⟩ : ByteArray), (⟨#[110, 54]⟩ : ByteArray)] : List ByteArray) : List ByteArray)).bind fun y558 => (laws_FnScanned.l0 kj5 y558 (y558.length : Int) 0 t529 t530 t531 t534 t529 t530 t531 t534)) else (some ((t537.length : Int) == 0))) = some r := by rw [if_neg (show ¬ (false = true) by decide)] at H; exact H
     clear H
     have H := H1
     clear H1
     by_cases c35 : t540 = true
     ·subst c35
      have H1 : ((some (([(⟨#[110, 49]⟩ : ByteArray), (⟨#[110, 50]⟩ : ByteArray), (⟨#[110, 51]⟩ : ByteArray), (⟨#[110, 52]⟩ : ByteArray), (⟨#[110, 53]⟩ : ByteArray), (⟨#[110, 54]⟩ : ByteArray)] : List ByteArray) : List ByteArray)).bind fun y558 => (laws_FnScanned.l0 kj5 y558 (y558.length : Int) 0 t529 t530 t531 t534 t529 t530 t531 t534)) = some r := by rw [if_pos rfl] at H; exact H
      clear H
      have H := H1
      clear H1
      obtain ⟨y558, hy558⟩ : ∃ y_ : List ByteArray, y_ = (([(⟨#[110, 49]⟩ : ByteArray), (⟨#[110, 50]⟩ : ByteArray), (⟨#[110, 51]⟩ : ByteArray), (⟨#[110, 52]⟩ : ByteArray), (⟨#[110, 53]⟩ : ByteArray), (⟨#[110, 54]⟩ : ByteArray)] : List ByteArray)) := ⟨_, rfl⟩
      replace H : (laws_FnScanned.l0 kj5 y558 (y558.length : Int) 0 t529 t530 t531 t534 t529 t530 t531 t534) = some r := by first | (rw [hy558]; with_reducible exact H) | (have H2_ := (Option.bind_some _ _).symm.trans H; rw [hy558]; with_reducible exact H2_) | (have H2_ := (Option.bind_some _ _).symm.trans H; with_reducible exact H2_) | with_reducible exact H | (rw [hy558]; exact H) | exact H
      have Ny558 := Aside0.mk hy558
      clear hy558
      have H' := Aside0.mk H
      clear H
      have hnb36 := NB541_554.out
      have hnc36 := NB554_541.out
      have hcz37_0 : wc.cell? ⟨gb541, 0, none⟩ = some (.int .i64 t529) := (blk_cell BK541.out 0).trans rfl
      have hcz37_1 : wc.cell? ⟨gb541, 1, none⟩ = some (.int .i64 t530) := (blk_cell BK541.out 1).trans rfl
      have hcz37_2 : wc.cell? ⟨gb541, 2, none⟩ = some (.slice Ao12 t531.length co12) := (blk_cell BK541.out 2).trans rfl
      have hcz37_3 : wc.cell? ⟨gb541, 3, none⟩ = some (.slice Ao13 t534.length co13) := (blk_cell BK541.out 3).trans rfl
      have hfz37_0 := blk_frozen BK541.out 0
      have hfz37_1 := blk_frozen BK541.out 1
      have hfz37_2 := blk_frozen BK541.out 2
      have hfz37_3 := blk_frozen BK541.out 3
      go_wp2_with (first | ((with_reducible refine gate_dst (N := 12) rfl ?_); refine box_event ?hg (N := 12) ?hd (cs := #[.int .i64 0, .int .i64 0, .slice none 0 0, .slice none 0 0]) (t := 28) ?hr ?_; (case hd => rfl); (case hg => rfl); (case hr => first | (go_simp; done) | (go_simp; rfl)); intro gb557 hg w38 hbox hb; have n0_ := Aside0.mk (Kd.R_below (kr HO_7.out) hb); have n1_ := Aside0.mk (Kd.R_below (kr HO_542002.out) hb); have n2_ := Aside0.mk (Kd.R_below (kr HO_542003.out) hb); have n3_ := Aside0.mk (Kd.R_below (kr HO_555002.out) hb); have n4_ := Aside0.mk (Kd.R_below (kr HO_555003.out) hb); have n5_ := Aside0.mk (blk_below (bk BK541.out) hb); have n6_ := Aside0.mk (blk_below (bk BK554.out) hb); have n7_ := Aside0.mk (below_step (bl2 HB.out GE541.out GE554.out) hb); have n8_ := Aside0.mk (hbox); have n9_ := Aside0.mk ((by rw [hg]; exact (below_size (bl2 HB.out GE541.out GE554.out)) : w.heap.size ≤ gb557)); have n10_ := Aside0.mk ((by rw [hg]; exact (below_size (bl2 HB.out GE541.out GE554.out)) : w.heap.size ≤ gb557)); have n11_ := Aside0.mk ((by rw [hg]; exact Nat.ne_of_lt (blk_lt (bk BK541.out)) : gb541 ≠ gb557)); have n12_ := Aside0.mk ((by rw [hg]; exact Nat.ne_of_gt (blk_lt (bk BK541.out)) : gb557 ≠ gb541)); have n13_ := Aside0.mk ((by rw [hg]; exact Nat.ne_of_lt (blk_lt (bk BK554.out)) : gb554 ≠ gb557)); have n14_ := Aside0.mk ((by rw [hg]; exact Nat.ne_of_gt (blk_lt (bk BK554.out)) : gb557 ≠ gb554)); clear HO_7; clear HO_542002; clear HO_542003; clear HO_555002; clear HO_555003; clear BK541; clear BK554; clear HB; have HO_7 := n0_; have HO_542002 := n1_; have HO_542003 := n2_; have HO_555002 := n3_; have HO_555003 := n4_; have BK541 := n5_; have BK554 := n6_; have HB := n7_; have BK557 := n8_; have GW557 := n9_; have GE557 := n10_; have NB541_557 := n11_; have NB557_541 := n12_; have NB554_557 := n13_; have NB557_554 := n14_; clear n0_ n1_ n2_ n3_ n4_ n5_ n6_ n7_ n8_ n9_ n10_ n11_ n12_ n13_ n14_; clear hb hbox hg; have hnb39 := NB557_541.out; have hnc39 := NB541_557.out; have hnb40 := NB557_554.out; have hnc40 := NB554_557.out; have hcz41_0 : w38.cell? ⟨gb557, 0, none⟩ = some (.int .i64 0) := (blk_cell BK557.out 0).trans rfl; have hcz41_1 : w38.cell? ⟨gb557, 1, none⟩ = some (.int .i64 0) := (blk_cell BK557.out 1).trans rfl; have hcz41_2 : w38.cell? ⟨gb557, 2, none⟩ = some (.slice none 0 0) := (blk_cell BK557.out 2).trans rfl; have hcz41_3 : w38.cell? ⟨gb557, 3, none⟩ = some (.slice none 0 0) := (blk_cell BK557.out 3).trans rfl; have hfz41_0 := blk_frozen BK557.out 0; have hfz41_1 := blk_frozen BK557.out 1; have hfz41_2 := blk_frozen BK557.out 2; have hfz41_3 := blk_frozen BK557.out 3) | ((with_reducible refine gate_dst (N := 64) rfl ?_); refine Kd.R_lit Kd.string _ 9 ?hg (N := 64) ?hd (xs := ([(⟨#[110, 49]⟩ : ByteArray), (⟨#[110, 50]⟩ : ByteArray), (⟨#[110, 51]⟩ : ByteArray), (⟨#[110, 52]⟩ : ByteArray), (⟨#[110, 53]⟩ : ByteArray), (⟨#[110, 54]⟩ : ByteArray)] : List ByteArray)) (inner := [.string (⟨#[110, 49]⟩ : ByteArray), .string (⟨#[110, 50]⟩ : ByteArray), .string (⟨#[110, 51]⟩ : ByteArray), .string (⟨#[110, 52]⟩ : ByteArray), .string (⟨#[110, 53]⟩ : ByteArray), .string (⟨#[110, 54]⟩ : ByteArray)]) (ok := fun _ => True) (okp := fun _ => True) ?hr ?hp (fun _ hk => hk) trivial (Below.refl _ _) (Nat.le_refl _) (by simp) ?_; (case hd => rfl); (case hg => rfl); (case hr => first | (go_simp; done) | (go_simp; rfl)); (case hp => exact (Reps.one (show Kd.M Kd.string _ _ _ (⟨#[110, 49]⟩ : ByteArray) [.string (⟨#[110, 49]⟩ : ByteArray)] from rfl) (Reps.one (show Kd.M Kd.string _ _ _ (⟨#[110, 50]⟩ : ByteArray) [.string (⟨#[110, 50]⟩ : ByteArray)] from rfl) (Reps.one (show Kd.M Kd.string _ _ _ (⟨#[110, 51]⟩ : ByteArray) [.string (⟨#[110, 51]⟩ : ByteArray)] from rfl) (Reps.one (show Kd.M Kd.string _ _ _ (⟨#[110, 52]⟩ : ByteArray) [.string (⟨#[110, 52]⟩ : ByteArray)] from rfl) (Reps.one (show Kd.M Kd.string _ _ _ (⟨#[110, 53]⟩ : ByteArray) [.string (⟨#[110, 53]⟩ : ByteArray)] from rfl) (Reps.one (show Kd.M Kd.string _ _ _ (⟨#[110, 54]⟩ : ByteArray) [.string (⟨#[110, 54]⟩ : ByteArray)] from rfl) (Reps.none _ _)))))))); intro v559 w42 ho43 hb hg_ hnew_; clear hg_ hnew_; (first | rw [← Ny558.out] at ho43 | (simp only [Int.reduceToNat] at ho43; rw [← Ny558.out] at ho43)); have n0_ := Aside0.mk (Kd.R_elder' (by (with_reducible repeat (first | apply Kd.R_alloc | apply Kd.R_drewN | apply Kd.R_drew)); exact (Kd.R_mono (Kd.R_far (p := ⟨gb557, 3, none⟩) (Kd.R_far (p := ⟨gb557, 2, none⟩) (Kd.R_far (p := ⟨gb557, 1, none⟩) (Kd.R_far (p := ⟨gb557, 0, none⟩) (Kd.R_types HO_7.out BK557.out (by decide)) (fun _ hk => hk.2) (.int .i64 t529)) (fun _ hk => hk.2) (.int .i64 t530)) (fun _ hk => hk.2) (.slice Ao12 t531.length co12)) (fun _ hk => hk.2) (.slice Ao13 t534.length co13)) (fun _ h_ => h_.1))) (Kd.R_base ho43) hb); have n1_ := Aside0.mk (Kd.R_below (by (with_reducible repeat (first | apply Kd.R_alloc | apply Kd.R_drewN | apply Kd.R_drew)); exact (Kd.R_mono (Kd.R_far (p := ⟨gb557, 3, none⟩) (Kd.R_far (p := ⟨gb557, 2, none⟩) (Kd.R_far (p := ⟨gb557, 1, none⟩) (Kd.R_far (p := ⟨gb557, 0, none⟩) (Kd.R_types HO_542002.out BK557.out (by decide)) (fun _ hk => hk.2) (.int .i64 t529)) (fun _ hk => hk.2) (.int .i64 t530)) (fun _ hk => hk.2) (.slice Ao12 t531.length co12)) (fun _ hk => hk.2) (.slice Ao13 t534.length co13)) (fun _ h_ => h_.1))) hb); have n2_ := Aside0.mk (Kd.R_below (by (with_reducible repeat (first | apply Kd.R_alloc | apply Kd.R_drewN | apply Kd.R_drew)); exact (Kd.R_mono (Kd.R_far (p := ⟨gb557, 3, none⟩) (Kd.R_far (p := ⟨gb557, 2, none⟩) (Kd.R_far (p := ⟨gb557, 1, none⟩) (Kd.R_far (p := ⟨gb557, 0, none⟩) (Kd.R_types HO_542003.out BK557.out (by decide)) (fun _ hk => hk.2) (.int .i64 t529)) (fun _ hk => hk.2) (.int .i64 t530)) (fun _ hk => hk.2) (.slice Ao12 t531.length co12)) (fun _ hk => hk.2) (.slice Ao13 t534.length co13)) (fun _ h_ => h_.1))) hb); have n3_ := Aside0.mk (Kd.R_below (by (with_reducible repeat (first | apply Kd.R_alloc | apply Kd.R_drewN | apply Kd.R_drew)); exact (Kd.R_mono (Kd.R_far (p := ⟨gb557, 3, none⟩) (Kd.R_far (p := ⟨gb557, 2, none⟩) (Kd.R_far (p := ⟨gb557, 1, none⟩) (Kd.R_far (p := ⟨gb557, 0, none⟩) (Kd.R_types HO_555002.out BK557.out (by decide)) (fun _ hk => hk.2) (.int .i64 t529)) (fun _ hk => hk.2) (.int .i64 t530)) (fun _ hk => hk.2) (.slice Ao12 t531.length co12)) (fun _ hk => hk.2) (.slice Ao13 t534.length co13)) (fun _ h_ => h_.1))) hb); have n4_ := Aside0.mk (Kd.R_below (by (with_reducible repeat (first | apply Kd.R_alloc | apply Kd.R_drewN | apply Kd.R_drew)); exact (Kd.R_mono (Kd.R_far (p := ⟨gb557, 3, none⟩) (Kd.R_far (p := ⟨gb557, 2, none⟩) (Kd.R_far (p := ⟨gb557, 1, none⟩) (Kd.R_far (p := ⟨gb557, 0, none⟩) (Kd.R_types HO_555003.out BK557.out (by decide)) (fun _ hk => hk.2) (.int .i64 t529)) (fun _ hk => hk.2) (.int .i64 t530)) (fun _ hk => hk.2) (.slice Ao12 t531.length co12)) (fun _ hk => hk.2) (.slice Ao13 t534.length co13)) (fun _ h_ => h_.1))) hb); have n5_ := Aside0.mk (Kd.R_lower (Kd.R_new' ho43 (Kd.R_lt (by (with_reducible repeat (first | apply Kd.R_alloc | apply Kd.R_drewN | apply Kd.R_drew)); exact (Kd.R_mono (Kd.R_far (p := ⟨gb557, 3, none⟩) (Kd.R_far (p := ⟨gb557, 2, none⟩) (Kd.R_far (p := ⟨gb557, 1, none⟩) (Kd.R_far (p := ⟨gb557, 0, none⟩) (Kd.R_types HO_7.out BK557.out (by decide)) (fun _ hk => hk.2) (.int .i64 t529)) (fun _ hk => hk.2) (.int .i64 t530)) (fun _ hk => hk.2) (.slice Ao12 t531.length co12)) (fun _ hk => hk.2) (.slice Ao13 t534.length co13)) (fun _ h_ => h_.1))))) (below_size (bl3 HB.out GE541.out GE554.out GE557.out))); have n6_ := Aside0.mk (blk_below (g := gb541) (o := .cells #[.int .i64 t529, .int .i64 t530, .slice Ao12 t531.length co12, .slice Ao13 t534.length co13] 28 (0, 0)) (by (with_reducible repeat (first | refine blk_drewN ?_ _ | refine blk_drew ?_ | refine blk_alloc ?_ _)); refine blk_far ?_ NB541_557.out _; (with_reducible repeat (first | refine blk_drewN ?_ _ | refine blk_drew ?_ | refine blk_alloc ?_ _)); refine blk_far ?_ NB541_557.out _; (with_reducible repeat (first | refine blk_drewN ?_ _ | refine blk_drew ?_ | refine blk_alloc ?_ _)); refine blk_far ?_ NB541_557.out _; (with_reducible repeat (first | refine blk_drewN ?_ _ | refine blk_drew ?_ | refine blk_alloc ?_ _)); refine blk_far ?_ NB541_557.out _; exact bk BK541.out) hb); have n7_ := Aside0.mk (blk_below (g := gb554) (o := .cells #[.int .i64 t542, .int .i64 t543, .slice Ao18 t544.length co18, .slice Ao19 t547.length co19] 28 (0, 0)) (by (with_reducible repeat (first | refine blk_drewN ?_ _ | refine blk_drew ?_ | refine blk_alloc ?_ _)); refine blk_far ?_ NB554_557.out _; (with_reducible repeat (first | refine blk_drewN ?_ _ | refine blk_drew ?_ | refine blk_alloc ?_ _)); refine blk_far ?_ NB554_557.out _; (with_reducible repeat (first | refine blk_drewN ?_ _ | refine blk_drew ?_ | refine blk_alloc ?_ _)); refine blk_far ?_ NB554_557.out _; (with_reducible repeat (first | refine blk_drewN ?_ _ | refine blk_drew ?_ | refine blk_alloc ?_ _)); refine blk_far ?_ NB554_557.out _; exact bk BK554.out) hb); have n8_ := Aside0.mk (blk_below (g := gb557) (o := .cells #[.int .i64 t529, .int .i64 t530, .slice Ao12 t531.length co12, .slice Ao13 t534.length co13] 28 (0, 0)) (by (with_reducible repeat (first | refine blk_drewN ?_ _ | refine blk_drew ?_ | refine blk_alloc ?_ _)); refine blk_put (cs := #[.int .i64 t529, .int .i64 t530, .slice Ao12 t531.length co12, .slice none 0 0]) ?_ 3 _ rfl; (with_reducible repeat (first | refine blk_drewN ?_ _ | refine blk_drew ?_ | refine blk_alloc ?_ _)); refine blk_put (cs := #[.int .i64 t529, .int .i64 t530, .slice none 0 0, .slice none 0 0]) ?_ 2 _ rfl; (with_reducible repeat (first | refine blk_drewN ?_ _ | refine blk_drew ?_ | refine blk_alloc ?_ _)); refine blk_put (cs := #[.int .i64 t529, .int .i64 0, .slice none 0 0, .slice none 0 0]) ?_ 1 _ rfl; (with_reducible repeat (first | refine blk_drewN ?_ _ | refine blk_drew ?_ | refine blk_alloc ?_ _)); refine blk_put (cs := #[.int .i64 0, .int .i64 0, .slice none 0 0, .slice none 0 0]) ?_ 0 _ rfl; exact bk BK557.out) hb); have n9_ := Aside0.mk (below_step (bl3 HB.out GE541.out GE554.out GE557.out) hb); clear HO_7; clear HO_542002; clear HO_542003; clear HO_555002; clear HO_555003; clear BK541; clear BK554; clear BK557; clear HB; have HO_7 := n0_; have HO_542002 := n1_; have HO_542003 := n2_; have HO_555002 := n3_; have HO_555003 := n4_; have HO560 := n5_; have BK541 := n6_; have BK554 := n7_; have BK557 := n8_; have HB := n9_; clear n0_ n1_ n2_ n3_ n4_ n5_ n6_ n7_ n8_ n9_; clear hb ho43; obtain ⟨Ao44, co44, eo44⟩ := Kd.R_slice HO560.out; subst eo44))
      go_loopg [66] kj5 (fun kq v66 w' => ∃ (x66_2 : Int) (x558000_2 : Int) (x558001_2 : Int) (x558002_2 : List (S45)) (x558003_2 : List (S45)) (u558002 : Value) (u558003 : Value), v66 = .int .i64 x66_2 ∧ Aside0 (laws_FnScanned.l0 kq y558 (y558.length : Int) x66_2 t529 t530 t531 t534 x558000_2 x558001_2 x558002_2 x558003_2 = some r) ∧ Aside0 (kq ≤ kj5) ∧ Aside0 (Kd.R Kd.string 9 w' w.heap.size (fun _ => True) (.slice Ao44 y558.length co44) y558) ∧ Aside0 (Kd.R k45 45 w' w.heap.size (fun k_ => some k_ ≠ ((.slice Ao13 t534.length co13) : Value).ownBlock ∧ some k_ ≠ ((.slice Ao18 t544.length co18) : Value).ownBlock ∧ some k_ ≠ ((.slice Ao19 t547.length co19) : Value).ownBlock ∧ some k_ ≠ (u558003 : Value).ownBlock) (.slice Ao12 t531.length co12) t531) ∧ Aside0 (Kd.R k45 45 w' w.heap.size (fun k_ => some k_ ≠ ((.slice Ao12 t531.length co12) : Value).ownBlock ∧ some k_ ≠ ((.slice Ao18 t544.length co18) : Value).ownBlock ∧ some k_ ≠ ((.slice Ao19 t547.length co19) : Value).ownBlock ∧ some k_ ≠ (u558002 : Value).ownBlock) (.slice Ao13 t534.length co13) t534) ∧ Aside0 (Kd.R k45 45 w' w.heap.size (fun k_ => some k_ ≠ ((.slice Ao12 t531.length co12) : Value).ownBlock ∧ some k_ ≠ ((.slice Ao13 t534.length co13) : Value).ownBlock ∧ some k_ ≠ ((.slice Ao19 t547.length co19) : Value).ownBlock ∧ some k_ ≠ (u558002 : Value).ownBlock ∧ some k_ ≠ (u558003 : Value).ownBlock) (.slice Ao18 t544.length co18) t544) ∧ Aside0 (Kd.R k45 45 w' w.heap.size (fun k_ => some k_ ≠ ((.slice Ao12 t531.length co12) : Value).ownBlock ∧ some k_ ≠ ((.slice Ao13 t534.length co13) : Value).ownBlock ∧ some k_ ≠ ((.slice Ao18 t544.length co18) : Value).ownBlock ∧ some k_ ≠ (u558002 : Value).ownBlock ∧ some k_ ≠ (u558003 : Value).ownBlock) (.slice Ao19 t547.length co19) t547) ∧ Aside0 (Kd.R k45 45 w' w.heap.size (fun k_ => some k_ ≠ ((.slice Ao13 t534.length co13) : Value).ownBlock ∧ some k_ ≠ ((.slice Ao18 t544.length co18) : Value).ownBlock ∧ some k_ ≠ ((.slice Ao19 t547.length co19) : Value).ownBlock ∧ some k_ ≠ (u558003 : Value).ownBlock) u558002 x558002_2) ∧ Aside0 (Kd.R k45 45 w' w.heap.size (fun k_ => some k_ ≠ ((.slice Ao12 t531.length co12) : Value).ownBlock ∧ some k_ ≠ ((.slice Ao18 t544.length co18) : Value).ownBlock ∧ some k_ ≠ ((.slice Ao19 t547.length co19) : Value).ownBlock ∧ some k_ ≠ (u558002 : Value).ownBlock) u558003 x558003_2) ∧ Aside0 (w'.heap[gb541]? = some (.cells #[.int .i64 t529, .int .i64 t530, (.slice Ao12 t531.length co12), (.slice Ao13 t534.length co13)] 28 (0, 0))) ∧ Aside0 (w'.heap[gb554]? = some (.cells #[.int .i64 t542, .int .i64 t543, (.slice Ao18 t544.length co18), (.slice Ao19 t547.length co19)] 28 (0, 0))) ∧ Aside0 (w'.heap[gb557]? = some (.cells #[.int .i64 x558000_2, .int .i64 x558001_2, u558002, u558003] 28 (0, 0))) ∧ Aside0 (Below w.heap.size w w'))
      case atStart => exact ⟨(0), (t529), (t530), (t531), (t534), (.slice Ao12 t531.length co12), (.slice Ao13 t534.length co13), (by first | rfl | (simp; done) | (simp [*]; done)), H', ⟨Nat.le_refl _⟩, ⟨by (with_reducible repeat (first | apply Kd.R_alloc | apply Kd.R_drewN | apply Kd.R_drew)); exact Kd.R_mono HO560.out (fun _ hk => trivial)⟩, ⟨by (with_reducible repeat (first | apply Kd.R_alloc | apply Kd.R_drewN | apply Kd.R_drew)); exact Kd.R_mono HO_542002.out (fun _ hk => ⟨hk.1, ⟨hk.2.1, ⟨hk.2.2, hk.1⟩⟩⟩)⟩, ⟨by (with_reducible repeat (first | apply Kd.R_alloc | apply Kd.R_drewN | apply Kd.R_drew)); exact Kd.R_mono HO_542003.out (fun _ hk => ⟨hk.1, ⟨hk.2.1, ⟨hk.2.2, hk.1⟩⟩⟩)⟩, ⟨by (with_reducible repeat (first | apply Kd.R_alloc | apply Kd.R_drewN | apply Kd.R_drew)); exact Kd.R_mono HO_555002.out (fun _ hk => ⟨hk.1, ⟨hk.2.1, ⟨hk.2.2, ⟨hk.1, hk.2.1⟩⟩⟩⟩)⟩, ⟨by (with_reducible repeat (first | apply Kd.R_alloc | apply Kd.R_drewN | apply Kd.R_drew)); exact Kd.R_mono HO_555003.out (fun _ hk => ⟨hk.1, ⟨hk.2.1, ⟨hk.2.2, ⟨hk.1, hk.2.1⟩⟩⟩⟩)⟩, ⟨by (with_reducible repeat (first | apply Kd.R_alloc | apply Kd.R_drewN | apply Kd.R_drew)); exact Kd.R_mono HO_542002.out (fun _ hk => ⟨hk.1, ⟨hk.2.1, ⟨hk.2.2, hk.1⟩⟩⟩)⟩, ⟨by (with_reducible repeat (first | apply Kd.R_alloc | apply Kd.R_drewN | apply Kd.R_drew)); exact Kd.R_mono HO_542003.out (fun _ hk => ⟨hk.1, ⟨hk.2.1, ⟨hk.2.2, hk.1⟩⟩⟩)⟩, ⟨bk BK541.out⟩, ⟨bk BK554.out⟩, ⟨bk BK557.out⟩, ⟨bl3 HB.out GE541.out GE554.out GE557.out⟩⟩
      case round =>
       clear H'
       try clear c1
       try clear c2
       try clear c2b0
       try clear c2b1
       try clear p2
       try clear c3
       try clear c4
       try clear c16
       try clear c17
       try clear c18
       try clear c20
       try clear c20b0
       try clear c20b1
       try clear c20b2
       try clear c22
       try clear c24
       try clear c30
       try clear c34
       try clear c35
       try clear c36
       try clear c39
       try clear c40
       try clear hcz11_0
       try clear hcz11_1
       try clear hcz11_2
       try clear hcz11_3
       try clear hcz17_0
       try clear hcz17_1
       try clear hcz17_2
       try clear hcz17_3
       try clear hcz25_0
       try clear hcz25_1
       try clear hcz25_2
       try clear hcz25_3
       try clear hcz26_0
       try clear hcz26_1
       try clear hcz26_2
       try clear hcz26_3
       try clear hcz31_0
       try clear hcz31_1
       try clear hcz31_2
       try clear hcz31_3
       try clear hcz32_0
       try clear hcz32_1
       try clear hcz32_2
       try clear hcz32_3
       try clear hcz37_0
       try clear hcz37_1
       try clear hcz37_2
       try clear hcz37_3
       try clear hcz41_0
       try clear hcz41_1
       try clear hcz41_2
       try clear hcz41_3
       try clear hfz11_0
       try clear hfz11_1
       try clear hfz11_2
       try clear hfz11_3
       try clear hfz17_0
       try clear hfz17_1
       try clear hfz17_2
       try clear hfz17_3
       try clear hfz25_0
       try clear hfz25_1
       try clear hfz25_2
       try clear hfz25_3
       try clear hfz26_0
       try clear hfz26_1
       try clear hfz26_2
       try clear hfz26_3
       try clear hfz31_0
       try clear hfz31_1
       try clear hfz31_2
       try clear hfz31_3
       try clear hfz32_0
       try clear hfz32_1
       try clear hfz32_2
       try clear hfz32_3
       try clear hfz37_0
       try clear hfz37_1
       try clear hfz37_2
       try clear hfz37_3
       try clear hfz41_0
       try clear hfz41_1
       try clear hfz41_2
       try clear hfz41_3
       try clear p2
       obtain ⟨x66_2, x558000_2, x558001_2, x558002_2, x558003_2, u558002, u558003, rfl, HA, HK2, HO_64, HO_542002, HO_542003, HO_555002, HO_555003, HO_558002, HO_558003, BK541, BK554, BK557, HB⟩ := hrel
       cases gk with
       | zero => exact absurd HA.out (by simp [laws_FnScanned.l0])
       | succ k2 =>
        have H := HA.out
        clear HA
        simp only [laws_FnScanned.l0] at H
        by_cases c45 : x66_2 < (y558.length : Int)
        ·rw [if_pos c45] at H
         have c45b0 : decide (x66_2 < (y558.length : Int)) = true := decide_eq_true c45
         clear c45
         by_cases c46 : 0 ≤ x66_2
         ·rw [if_pos c46] at H
          have c46b0 : decide (0 ≤ x66_2) = true := decide_eq_true c46
          clear c46
          by_cases c47 : x66_2 < (y558.length : Int)
          ·rw [if_pos c47] at H
           have c47b0 : decide (x66_2 < (y558.length : Int)) = true := decide_eq_true c47
           clear c47
           replace H := Option.bind_eq_some_iff.mp H
           obtain ⟨⟨t562, t563, t564, t567, t570, t573⟩, A480, H⟩ := H
           try dsimp only at H
           have A48 := Aside0.mk A480
           clear A480
           by_cases c49 : t573 = true
           ·subst c49
            have H1 : (laws_FnScanned.l0 k2 y558 (y558.length : Int) (wrap64 (x66_2 + 1)) t529 t530 t531 t534 t562 t563 t564 t567) = some r := by rw [if_pos rfl] at H; exact H
            clear H
            have H := H1
            clear H1
            have H' := Aside0.mk H
            clear H
            have p561 : 0 ≤ (x66_2 : Int) := of_decide_eq_true (by first | (with_reducible assumption) | assumption)
            have q561 : x66_2 < (y558.length : Int) := of_decide_eq_true (by first | (with_reducible assumption) | assumption)
            obtain ⟨ad561, e561, hx561_0⟩ := Kd.at_string (Kd.R_reads' HO_64.out).2.2 x66_2 p561 q561
            cases e561
            replace p561 := eq_true p561
            replace q561 := eq_true q561
            have hnb50 := NB557_541.out
            have hnc50 := NB541_557.out
            have hnb51 := NB557_554.out
            have hnc51 := NB554_557.out
            have hcz52_0 : wr.cell? ⟨gb557, 0, none⟩ = some (.int .i64 x558000_2) := (blk_cell BK557.out 0).trans rfl
            have hcz52_1 : wr.cell? ⟨gb557, 1, none⟩ = some (.int .i64 x558001_2) := (blk_cell BK557.out 1).trans rfl
            have hcz52_2 : wr.cell? ⟨gb557, 2, none⟩ = some (u558002) := (blk_cell BK557.out 2).trans rfl
            have hcz52_3 : wr.cell? ⟨gb557, 3, none⟩ = some (u558003) := (blk_cell BK557.out 3).trans rfl
            have hfz52_0 := blk_frozen BK557.out 0
            have hfz52_1 := blk_frozen BK557.out 1
            have hfz52_2 := blk_frozen BK557.out 2
            have hfz52_3 := blk_frozen BK557.out 3
            obtain ⟨Ao53, co53, eo53⟩ := Kd.R_slice HO_558002.out
            subst eo53
            obtain ⟨Ao54, co54, eo54⟩ := Kd.R_slice HO_558003.out
            subst eo54
            go_wp2_with (first | ((with_reducible refine gate_callee (f := 21) rfl ?_); refine goesL_ (some 74) rfl rfl Try.func21 (by kernel_rfl) rfl #[.agg #[.int .i64 x558000_2, .int .i64 x558001_2, .slice Ao53 x558002_2.length co53, .slice Ao54 x558003_2.length co54], .agg #[.string (rdOf ByteArray.empty y558 x66_2), .string (⟨#[97, 32, 118, 97, 108, 117, 101, 32, 111, 102, 32, 115, 111, 109, 101, 32, 98, 121, 116, 101, 115, 44, 32, 116, 111, 32, 102, 105, 108, 108, 32, 119, 104, 97, 116, 32, 105, 115, 32, 111, 110, 32, 116, 114, 105, 97, 108]⟩ : ByteArray)]] rfl (by (try simp only [List.map_toArray, List.map_cons, List.map_nil]); first | done | rfl | (simp only [List.length_drop, List.length_take]; rfl)) ?_; (with_reducible refine (impl_PutEntry.calls k2 x558000_2 x558001_2 _ _ x558002_2 _ _ x558003_2 (rdOf ByteArray.empty y558 x66_2) (⟨#[97, 32, 118, 97, 108, 117, 101, 32, 111, 102, 32, 115, 111, 109, 101, 32, 98, 121, 116, 101, 115, 44, 32, 116, 111, 32, 102, 105, 108, 108, 32, 119, 104, 97, 116, 32, 105, 115, 32, 111, 110, 32, 116, 114, 105, 97, 108]⟩ : ByteArray) t562 t563 t564 t567 t570 true _ ?side1 ?side2 ?side3 ?side4 A48.out).mono ?_); (case side1 => exact kc (Kd.R_reads' HO_558002.out).2.2); (case side2 => exact (Kd.R_reads' HO_558002.out).2.1); (case side3 => exact kc (Kd.R_reads' HO_558003.out).2.2); (case side4 => exact (Kd.R_reads' HO_558003.out).2.1); rintro e w55 ⟨v565, v568, v571, rfl, ho0, ho1, ho2, hb⟩; refine ⟨_, rfl, ?_⟩; have n0_ := Aside0.mk (Kd.R_below (kr HO_64.out) hb); have n1_ := Aside0.mk (Kd.R_mono (Kd.R_told (Kd.R_told (Kd.R_told (Kd.R_old (kr HO_542002.out) hb) (Kd.R_base ho0)) (Kd.R_base ho1)) (Kd.R_base ho2)) (fun _ h_ => h_.1)); have n2_ := Aside0.mk (Kd.R_mono (Kd.R_told (Kd.R_told (Kd.R_told (Kd.R_old (kr HO_542003.out) hb) (Kd.R_base ho0)) (Kd.R_base ho1)) (Kd.R_base ho2)) (fun _ h_ => h_.1)); have n3_ := Aside0.mk (Kd.R_mono (Kd.R_told (Kd.R_told (Kd.R_told (Kd.R_old (kr HO_555002.out) hb) (Kd.R_base ho0)) (Kd.R_base ho1)) (Kd.R_base ho2)) (fun _ h_ => h_.1)); have n4_ := Aside0.mk (Kd.R_mono (Kd.R_told (Kd.R_told (Kd.R_told (Kd.R_old (kr HO_555003.out) hb) (Kd.R_base ho0)) (Kd.R_base ho1)) (Kd.R_base ho2)) (fun _ h_ => h_.1)); have n5_ := Aside0.mk (Kd.R_mono (Kd.R_told (Kd.R_told (Kd.R_told (Kd.R_old (kr HO_558002.out) hb) (Kd.R_base ho0)) (Kd.R_base ho1)) (Kd.R_base ho2)) (fun _ h_ => h_.1)); have n6_ := Aside0.mk (Kd.R_mono (Kd.R_told (Kd.R_told (Kd.R_told (Kd.R_old (kr HO_558003.out) hb) (Kd.R_base ho0)) (Kd.R_base ho1)) (Kd.R_base ho2)) (fun _ h_ => h_.1)); have n7_ := Aside0.mk (Kd.R_lower (Kd.R_new' (Kd.R_new' (Kd.R_new' (Kd.R_new' (Kd.R_new' (Kd.R_new' ho0 (Kd.R_lt (kr HO_542002.out))) (Kd.R_lt (kr HO_542003.out))) (Kd.R_lt (kr HO_555002.out))) (Kd.R_lt (kr HO_555003.out))) (Kd.R_lt (kr HO_558002.out))) (Kd.R_lt (kr HO_558003.out))) (below_size (bl3 HB.out GE541.out GE554.out GE557.out))); have n8_ := Aside0.mk (Kd.R_lower (Kd.R_new' (Kd.R_new' (Kd.R_new' (Kd.R_new' (Kd.R_new' (Kd.R_new' ho1 (Kd.R_lt (kr HO_542002.out))) (Kd.R_lt (kr HO_542003.out))) (Kd.R_lt (kr HO_555002.out))) (Kd.R_lt (kr HO_555003.out))) (Kd.R_lt (kr HO_558002.out))) (Kd.R_lt (kr HO_558003.out))) (below_size (bl3 HB.out GE541.out GE554.out GE557.out))); have n9_ := Aside0.mk (Kd.R_lower (Kd.R_new' (Kd.R_new' (Kd.R_new' (Kd.R_new' (Kd.R_new' (Kd.R_new' ho2 (Kd.R_lt (kr HO_542002.out))) (Kd.R_lt (kr HO_542003.out))) (Kd.R_lt (kr HO_555002.out))) (Kd.R_lt (kr HO_555003.out))) (Kd.R_lt (kr HO_558002.out))) (Kd.R_lt (kr HO_558003.out))) (below_size (bl3 HB.out GE541.out GE554.out GE557.out))); have n10_ := Aside0.mk (blk_below (bk BK541.out) hb); have n11_ := Aside0.mk (blk_below (bk BK554.out) hb); have n12_ := Aside0.mk (blk_below (bk BK557.out) hb); have n13_ := Aside0.mk (below_step (bl3 HB.out GE541.out GE554.out GE557.out) hb); clear HO_64; clear HO_542002; clear HO_542003; clear HO_555002; clear HO_555003; clear HO_558002; clear HO_558003; clear BK541; clear BK554; clear BK557; clear HB; have HO_64 := n0_; have HO_542002 := n1_; have HO_542003 := n2_; have HO_555002 := n3_; have HO_555003 := n4_; have HO_558002 := n5_; have HO_558003 := n6_; have HO566 := n7_; have HO569 := n8_; have HO572 := n9_; have BK541 := n10_; have BK554 := n11_; have BK557 := n12_; have HB := n13_; clear n0_ n1_ n2_ n3_ n4_ n5_ n6_ n7_ n8_ n9_ n10_ n11_ n12_ n13_; (try clear hb); (try clear hb2); (try clear hk); (try clear hi); (try clear ho0); (try clear ho1); (try clear ho2)) | ((with_reducible refine gate_dst (N := 15) rfl ?_); refine box_event ?hg (N := 15) ?hd (cs := #[.int .i64 0, .int .i64 0, .slice none 0 0, .slice none 0 0]) (t := 28) ?hr ?_; (case hd => rfl); (case hg => rfl); (case hr => first | (go_simp; done) | (go_simp; rfl)); intro gb574 hg w56 hbox hb; have n0_ := Aside0.mk (Kd.R_below (kr HO_64.out) hb); have n1_ := Aside0.mk (Kd.R_below (kr HO_542002.out) hb); have n2_ := Aside0.mk (Kd.R_below (kr HO_542003.out) hb); have n3_ := Aside0.mk (Kd.R_below (kr HO_555002.out) hb); have n4_ := Aside0.mk (Kd.R_below (kr HO_555003.out) hb); have n5_ := Aside0.mk (Kd.R_below (kr HO_558002.out) hb); have n6_ := Aside0.mk (Kd.R_below (kr HO_558003.out) hb); have n7_ := Aside0.mk (Kd.R_below (kr HO566.out) hb); have n8_ := Aside0.mk (Kd.R_below (kr HO569.out) hb); have n9_ := Aside0.mk (Kd.R_below (kr HO572.out) hb); have n10_ := Aside0.mk (blk_below (bk BK541.out) hb); have n11_ := Aside0.mk (blk_below (bk BK554.out) hb); have n12_ := Aside0.mk (blk_below (bk BK557.out) hb); have n13_ := Aside0.mk (below_step (bl3 HB.out GE541.out GE554.out GE557.out) hb); have n14_ := Aside0.mk (hbox); have n15_ := Aside0.mk ((by rw [hg]; exact (below_size (bl3 HB.out GE541.out GE554.out GE557.out)) : w.heap.size ≤ gb574)); have n16_ := Aside0.mk ((by rw [hg]; exact (below_size (bl3 HB.out GE541.out GE554.out GE557.out)) : w.heap.size ≤ gb574)); have n17_ := Aside0.mk ((by rw [hg]; exact Nat.ne_of_lt (blk_lt (bk BK541.out)) : gb541 ≠ gb574)); have n18_ := Aside0.mk ((by rw [hg]; exact Nat.ne_of_gt (blk_lt (bk BK541.out)) : gb574 ≠ gb541)); have n19_ := Aside0.mk ((by rw [hg]; exact Nat.ne_of_lt (blk_lt (bk BK554.out)) : gb554 ≠ gb574)); have n20_ := Aside0.mk ((by rw [hg]; exact Nat.ne_of_gt (blk_lt (bk BK554.out)) : gb574 ≠ gb554)); have n21_ := Aside0.mk ((by rw [hg]; exact Nat.ne_of_lt (blk_lt (bk BK557.out)) : gb557 ≠ gb574)); have n22_ := Aside0.mk ((by rw [hg]; exact Nat.ne_of_gt (blk_lt (bk BK557.out)) : gb574 ≠ gb557)); clear HO_64; clear HO_542002; clear HO_542003; clear HO_555002; clear HO_555003; clear HO_558002; clear HO_558003; clear HO566; clear HO569; clear HO572; clear BK541; clear BK554; clear BK557; clear HB; have HO_64 := n0_; have HO_542002 := n1_; have HO_542003 := n2_; have HO_555002 := n3_; have HO_555003 := n4_; have HO_558002 := n5_; have HO_558003 := n6_; have HO566 := n7_; have HO569 := n8_; have HO572 := n9_; have BK541 := n10_; have BK554 := n11_; have BK557 := n12_; have HB := n13_; have BK574 := n14_; have GW574 := n15_; have GE574 := n16_; have NB541_574 := n17_; have NB574_541 := n18_; have NB554_574 := n19_; have NB574_554 := n20_; have NB557_574 := n21_; have NB574_557 := n22_; clear n0_ n1_ n2_ n3_ n4_ n5_ n6_ n7_ n8_ n9_ n10_ n11_ n12_ n13_ n14_ n15_ n16_ n17_ n18_ n19_ n20_ n21_ n22_; clear hb hbox hg; have hnb57 := NB574_541.out; have hnc57 := NB541_574.out; have hnb58 := NB574_554.out; have hnc58 := NB554_574.out; have hnb59 := NB574_557.out; have hnc59 := NB557_574.out; have hcz60_0 : w56.cell? ⟨gb574, 0, none⟩ = some (.int .i64 0) := (blk_cell BK574.out 0).trans rfl; have hcz60_1 : w56.cell? ⟨gb574, 1, none⟩ = some (.int .i64 0) := (blk_cell BK574.out 1).trans rfl; have hcz60_2 : w56.cell? ⟨gb574, 2, none⟩ = some (.slice none 0 0) := (blk_cell BK574.out 2).trans rfl; have hcz60_3 : w56.cell? ⟨gb574, 3, none⟩ = some (.slice none 0 0) := (blk_cell BK574.out 3).trans rfl; have hfz60_0 := blk_frozen BK574.out 0; have hfz60_1 := blk_frozen BK574.out 1; have hfz60_2 := blk_frozen BK574.out 2; have hfz60_3 := blk_frozen BK574.out 3; obtain ⟨Ao61, co61, eo61⟩ := Kd.R_slice HO566.out; subst eo61; obtain ⟨Ao62, co62, eo62⟩ := Kd.R_slice HO569.out; subst eo62; have hcz63_0 : w56.cell? ⟨gb557, 0, none⟩ = some (.int .i64 x558000_2) := (blk_cell BK557.out 0).trans rfl; have hcz63_1 : w56.cell? ⟨gb557, 1, none⟩ = some (.int .i64 x558001_2) := (blk_cell BK557.out 1).trans rfl; have hcz63_2 : w56.cell? ⟨gb557, 2, none⟩ = some (.slice Ao53 x558002_2.length co53) := (blk_cell BK557.out 2).trans rfl; have hcz63_3 : w56.cell? ⟨gb557, 3, none⟩ = some (.slice Ao54 x558003_2.length co54) := (blk_cell BK557.out 3).trans rfl; have hfz63_0 := blk_frozen BK557.out 0; have hfz63_1 := blk_frozen BK557.out 1; have hfz63_2 := blk_frozen BK557.out 2; have hfz63_3 := blk_frozen BK557.out 3))
            go_roundg k2
            case measure => have := HJ5.out; have := HK2.out; omega
            case rel => exact ⟨(wrap64 (x66_2 + 1)), (t562), (t563), (t564), (t567), (.slice Ao61 t564.length co61), (.slice Ao62 t567.length co62), (by first | rfl | (simp; done) | (simp [*]; done)), H', ⟨by have := HJ5.out; have := HK2.out; omega⟩, ⟨by (with_reducible repeat (first | apply Kd.R_alloc | apply Kd.R_drewN | apply Kd.R_drew)); exact Kd.R_mono (Kd.R_far (p := ⟨gb557, 3, none⟩) (Kd.R_far (p := ⟨gb557, 2, none⟩) (Kd.R_far (p := ⟨gb557, 1, none⟩) (Kd.R_far (p := ⟨gb557, 0, none⟩) (Kd.R_far (p := ⟨gb574, 3, none⟩) (Kd.R_far (p := ⟨gb574, 2, none⟩) (Kd.R_far (p := ⟨gb574, 1, none⟩) (Kd.R_far (p := ⟨gb574, 0, none⟩) (Kd.R_types (Kd.R_types HO_64.out BK574.out (by decide)) BK557.out (by decide)) (fun _ hk => hk.1.2) (.int .i64 t562)) (fun _ hk => hk.1.2) (.int .i64 t563)) (fun _ hk => hk.1.2) (.slice Ao61 t564.length co61)) (fun _ hk => hk.1.2) (.slice Ao62 t567.length co62)) (fun _ hk => hk.2) (.int .i64 t562)) (fun _ hk => hk.2) (.int .i64 t563)) (fun _ hk => hk.2) (.slice Ao61 t564.length co61)) (fun _ hk => hk.2) (.slice Ao62 t567.length co62)) (fun _ hk => trivial)⟩, ⟨by (with_reducible repeat (first | apply Kd.R_alloc | apply Kd.R_drewN | apply Kd.R_drew)); exact Kd.R_mono (Kd.R_far (p := ⟨gb557, 3, none⟩) (Kd.R_far (p := ⟨gb557, 2, none⟩) (Kd.R_far (p := ⟨gb557, 1, none⟩) (Kd.R_far (p := ⟨gb557, 0, none⟩) (Kd.R_far (p := ⟨gb574, 3, none⟩) (Kd.R_far (p := ⟨gb574, 2, none⟩) (Kd.R_far (p := ⟨gb574, 1, none⟩) (Kd.R_far (p := ⟨gb574, 0, none⟩) (Kd.R_types (Kd.R_types HO_542002.out BK574.out (by decide)) BK557.out (by decide)) (fun _ hk => hk.1.2) (.int .i64 t562)) (fun _ hk => hk.1.2) (.int .i64 t563)) (fun _ hk => hk.1.2) (.slice Ao61 t564.length co61)) (fun _ hk => hk.1.2) (.slice Ao62 t567.length co62)) (fun _ hk => hk.2) (.int .i64 t562)) (fun _ hk => hk.2) (.int .i64 t563)) (fun _ hk => hk.2) (.slice Ao61 t564.length co61)) (fun _ hk => hk.2) (.slice Ao62 t567.length co62)) (fun _ hk => by grind)⟩, ⟨by (with_reducible repeat (first | apply Kd.R_alloc | apply Kd.R_drewN | apply Kd.R_drew)); exact Kd.R_mono (Kd.R_far (p := ⟨gb557, 3, none⟩) (Kd.R_far (p := ⟨gb557, 2, none⟩) (Kd.R_far (p := ⟨gb557, 1, none⟩) (Kd.R_far (p := ⟨gb557, 0, none⟩) (Kd.R_far (p := ⟨gb574, 3, none⟩) (Kd.R_far (p := ⟨gb574, 2, none⟩) (Kd.R_far (p := ⟨gb574, 1, none⟩) (Kd.R_far (p := ⟨gb574, 0, none⟩) (Kd.R_types (Kd.R_types HO_542003.out BK574.out (by decide)) BK557.out (by decide)) (fun _ hk => hk.1.2) (.int .i64 t562)) (fun _ hk => hk.1.2) (.int .i64 t563)) (fun _ hk => hk.1.2) (.slice Ao61 t564.length co61)) (fun _ hk => hk.1.2) (.slice Ao62 t567.length co62)) (fun _ hk => hk.2) (.int .i64 t562)) (fun _ hk => hk.2) (.int .i64 t563)) (fun _ hk => hk.2) (.slice Ao61 t564.length co61)) (fun _ hk => hk.2) (.slice Ao62 t567.length co62)) (fun _ hk => by grind)⟩, ⟨by (with_reducible repeat (first | apply Kd.R_alloc | apply Kd.R_drewN | apply Kd.R_drew)); exact Kd.R_mono (Kd.R_far (p := ⟨gb557, 3, none⟩) (Kd.R_far (p := ⟨gb557, 2, none⟩) (Kd.R_far (p := ⟨gb557, 1, none⟩) (Kd.R_far (p := ⟨gb557, 0, none⟩) (Kd.R_far (p := ⟨gb574, 3, none⟩) (Kd.R_far (p := ⟨gb574, 2, none⟩) (Kd.R_far (p := ⟨gb574, 1, none⟩) (Kd.R_far (p := ⟨gb574, 0, none⟩) (Kd.R_types (Kd.R_types HO_555002.out BK574.out (by decide)) BK557.out (by decide)) (fun _ hk => hk.1.2) (.int .i64 t562)) (fun _ hk => hk.1.2) (.int .i64 t563)) (fun _ hk => hk.1.2) (.slice Ao61 t564.length co61)) (fun _ hk => hk.1.2) (.slice Ao62 t567.length co62)) (fun _ hk => hk.2) (.int .i64 t562)) (fun _ hk => hk.2) (.int .i64 t563)) (fun _ hk => hk.2) (.slice Ao61 t564.length co61)) (fun _ hk => hk.2) (.slice Ao62 t567.length co62)) (fun _ hk => by grind)⟩, ⟨by (with_reducible repeat (first | apply Kd.R_alloc | apply Kd.R_drewN | apply Kd.R_drew)); exact Kd.R_mono (Kd.R_far (p := ⟨gb557, 3, none⟩) (Kd.R_far (p := ⟨gb557, 2, none⟩) (Kd.R_far (p := ⟨gb557, 1, none⟩) (Kd.R_far (p := ⟨gb557, 0, none⟩) (Kd.R_far (p := ⟨gb574, 3, none⟩) (Kd.R_far (p := ⟨gb574, 2, none⟩) (Kd.R_far (p := ⟨gb574, 1, none⟩) (Kd.R_far (p := ⟨gb574, 0, none⟩) (Kd.R_types (Kd.R_types HO_555003.out BK574.out (by decide)) BK557.out (by decide)) (fun _ hk => hk.1.2) (.int .i64 t562)) (fun _ hk => hk.1.2) (.int .i64 t563)) (fun _ hk => hk.1.2) (.slice Ao61 t564.length co61)) (fun _ hk => hk.1.2) (.slice Ao62 t567.length co62)) (fun _ hk => hk.2) (.int .i64 t562)) (fun _ hk => hk.2) (.int .i64 t563)) (fun _ hk => hk.2) (.slice Ao61 t564.length co61)) (fun _ hk => hk.2) (.slice Ao62 t567.length co62)) (fun _ hk => by grind)⟩, ⟨by (with_reducible repeat (first | apply Kd.R_alloc | apply Kd.R_drewN | apply Kd.R_drew)); exact Kd.R_mono (Kd.R_far (p := ⟨gb557, 3, none⟩) (Kd.R_far (p := ⟨gb557, 2, none⟩) (Kd.R_far (p := ⟨gb557, 1, none⟩) (Kd.R_far (p := ⟨gb557, 0, none⟩) (Kd.R_far (p := ⟨gb574, 3, none⟩) (Kd.R_far (p := ⟨gb574, 2, none⟩) (Kd.R_far (p := ⟨gb574, 1, none⟩) (Kd.R_far (p := ⟨gb574, 0, none⟩) (Kd.R_types (Kd.R_types HO566.out BK574.out (by decide)) BK557.out (by decide)) (fun _ hk => hk.1.2) (.int .i64 t562)) (fun _ hk => hk.1.2) (.int .i64 t563)) (fun _ hk => hk.1.2) (.slice Ao61 t564.length co61)) (fun _ hk => hk.1.2) (.slice Ao62 t567.length co62)) (fun _ hk => hk.2) (.int .i64 t562)) (fun _ hk => hk.2) (.int .i64 t563)) (fun _ hk => hk.2) (.slice Ao61 t564.length co61)) (fun _ hk => hk.2) (.slice Ao62 t567.length co62)) (fun _ hk => by grind)⟩, ⟨by (with_reducible repeat (first | apply Kd.R_alloc | apply Kd.R_drewN | apply Kd.R_drew)); exact Kd.R_mono (Kd.R_far (p := ⟨gb557, 3, none⟩) (Kd.R_far (p := ⟨gb557, 2, none⟩) (Kd.R_far (p := ⟨gb557, 1, none⟩) (Kd.R_far (p := ⟨gb557, 0, none⟩) (Kd.R_far (p := ⟨gb574, 3, none⟩) (Kd.R_far (p := ⟨gb574, 2, none⟩) (Kd.R_far (p := ⟨gb574, 1, none⟩) (Kd.R_far (p := ⟨gb574, 0, none⟩) (Kd.R_types (Kd.R_types HO569.out BK574.out (by decide)) BK557.out (by decide)) (fun _ hk => hk.1.2) (.int .i64 t562)) (fun _ hk => hk.1.2) (.int .i64 t563)) (fun _ hk => hk.1.2) (.slice Ao61 t564.length co61)) (fun _ hk => hk.1.2) (.slice Ao62 t567.length co62)) (fun _ hk => hk.2) (.int .i64 t562)) (fun _ hk => hk.2) (.int .i64 t563)) (fun _ hk => hk.2) (.slice Ao61 t564.length co61)) (fun _ hk => hk.2) (.slice Ao62 t567.length co62)) (fun _ hk => by grind)⟩, ⟨by (with_reducible repeat (first | refine blk_drewN ?_ _ | refine blk_drew ?_ | refine blk_alloc ?_ _)); refine blk_far ?_ NB541_557.out _; (with_reducible repeat (first | refine blk_drewN ?_ _ | refine blk_drew ?_ | refine blk_alloc ?_ _)); refine blk_far ?_ NB541_557.out _; (with_reducible repeat (first | refine blk_drewN ?_ _ | refine blk_drew ?_ | refine blk_alloc ?_ _)); refine blk_far ?_ NB541_557.out _; (with_reducible repeat (first | refine blk_drewN ?_ _ | refine blk_drew ?_ | refine blk_alloc ?_ _)); refine blk_far ?_ NB541_557.out _; (with_reducible repeat (first | refine blk_drewN ?_ _ | refine blk_drew ?_ | refine blk_alloc ?_ _)); refine blk_far ?_ NB541_574.out _; (with_reducible repeat (first | refine blk_drewN ?_ _ | refine blk_drew ?_ | refine blk_alloc ?_ _)); refine blk_far ?_ NB541_574.out _; (with_reducible repeat (first | refine blk_drewN ?_ _ | refine blk_drew ?_ | refine blk_alloc ?_ _)); refine blk_far ?_ NB541_574.out _; (with_reducible repeat (first | refine blk_drewN ?_ _ | refine blk_drew ?_ | refine blk_alloc ?_ _)); refine blk_far ?_ NB541_574.out _; exact bk BK541.out⟩, ⟨by (with_reducible repeat (first | refine blk_drewN ?_ _ | refine blk_drew ?_ | refine blk_alloc ?_ _)); refine blk_far ?_ NB554_557.out _; (with_reducible repeat (first | refine blk_drewN ?_ _ | refine blk_drew ?_ | refine blk_alloc ?_ _)); refine blk_far ?_ NB554_557.out _; (with_reducible repeat (first | refine blk_drewN ?_ _ | refine blk_drew ?_ | refine blk_alloc ?_ _)); refine blk_far ?_ NB554_557.out _; (with_reducible repeat (first | refine blk_drewN ?_ _ | refine blk_drew ?_ | refine blk_alloc ?_ _)); refine blk_far ?_ NB554_557.out _; (with_reducible repeat (first | refine blk_drewN ?_ _ | refine blk_drew ?_ | refine blk_alloc ?_ _)); refine blk_far ?_ NB554_574.out _; (with_reducible repeat (first | refine blk_drewN ?_ _ | refine blk_drew ?_ | refine blk_alloc ?_ _)); refine blk_far ?_ NB554_574.out _; (with_reducible repeat (first | refine blk_drewN ?_ _ | refine blk_drew ?_ | refine blk_alloc ?_ _)); refine blk_far ?_ NB554_574.out _; (with_reducible repeat (first | refine blk_drewN ?_ _ | refine blk_drew ?_ | refine blk_alloc ?_ _)); refine blk_far ?_ NB554_574.out _; exact bk BK554.out⟩, ⟨by (with_reducible repeat (first | refine blk_drewN ?_ _ | refine blk_drew ?_ | refine blk_alloc ?_ _)); refine blk_put (cs := #[.int .i64 t562, .int .i64 t563, .slice Ao61 t564.length co61, .slice Ao54 x558003_2.length co54]) ?_ 3 _ rfl; (with_reducible repeat (first | refine blk_drewN ?_ _ | refine blk_drew ?_ | refine blk_alloc ?_ _)); refine blk_put (cs := #[.int .i64 t562, .int .i64 t563, .slice Ao53 x558002_2.length co53, .slice Ao54 x558003_2.length co54]) ?_ 2 _ rfl; (with_reducible repeat (first | refine blk_drewN ?_ _ | refine blk_drew ?_ | refine blk_alloc ?_ _)); refine blk_put (cs := #[.int .i64 t562, .int .i64 x558001_2, .slice Ao53 x558002_2.length co53, .slice Ao54 x558003_2.length co54]) ?_ 1 _ rfl; (with_reducible repeat (first | refine blk_drewN ?_ _ | refine blk_drew ?_ | refine blk_alloc ?_ _)); refine blk_put (cs := #[.int .i64 x558000_2, .int .i64 x558001_2, .slice Ao53 x558002_2.length co53, .slice Ao54 x558003_2.length co54]) ?_ 0 _ rfl; (with_reducible repeat (first | refine blk_drewN ?_ _ | refine blk_drew ?_ | refine blk_alloc ?_ _)); refine blk_far ?_ NB557_574.out _; (with_reducible repeat (first | refine blk_drewN ?_ _ | refine blk_drew ?_ | refine blk_alloc ?_ _)); refine blk_far ?_ NB557_574.out _; (with_reducible repeat (first | refine blk_drewN ?_ _ | refine blk_drew ?_ | refine blk_alloc ?_ _)); refine blk_far ?_ NB557_574.out _; (with_reducible repeat (first | refine blk_drewN ?_ _ | refine blk_drew ?_ | refine blk_alloc ?_ _)); refine blk_far ?_ NB557_574.out _; exact bk BK557.out⟩, ⟨bl4 HB.out GE541.out GE554.out GE557.out GE574.out⟩⟩
           ·replace c49 := Bool.eq_false_iff.mpr c49
            subst c49
            have H1 : (none) = some r := by rw [if_neg (show ¬ (false = true) by decide)] at H; exact H
            clear H
            have H := H1
            clear H1
            exact absurd H (by simp)
          ·rw [if_neg c47] at H
           exact absurd H (by simp)
         ·rw [if_neg c46] at H
          exact absurd H (by simp)
        ·rw [if_neg c45] at H
         have c45b0 : decide (x66_2 < (y558.length : Int)) = false := decide_eq_false c45
         clear c45
         replace H := Option.bind_eq_some_iff.mp H
         obtain ⟨t575, A640, H⟩ := H
         try dsimp only at H
         have A64 := Aside0.mk A640
         clear A640
         by_cases c65 : t575 = true
         ·subst c65
          have H1 : ((laws_sameEntries.f k2 x558003_2 t534).bind fun t576 => (some t576)) = some r := by rw [if_pos rfl] at H; exact H
          clear H
          have H := H1
          clear H1
          replace H := Option.bind_eq_some_iff.mp H
          obtain ⟨t576, A660, H⟩ := H
          try dsimp only at H
          have A66 := Aside0.mk A660
          clear A660
          obtain rfl := Option.some.inj H
          have hnb67 := NB541_554.out
          have hnc67 := NB554_541.out
          have hnb68 := NB541_557.out
          have hnc68 := NB557_541.out
          have hcz69_0 : wr.cell? ⟨gb541, 0, none⟩ = some (.int .i64 t529) := (blk_cell BK541.out 0).trans rfl
          have hcz69_1 : wr.cell? ⟨gb541, 1, none⟩ = some (.int .i64 t530) := (blk_cell BK541.out 1).trans rfl
          have hcz69_2 : wr.cell? ⟨gb541, 2, none⟩ = some (.slice Ao12 t531.length co12) := (blk_cell BK541.out 2).trans rfl
          have hcz69_3 : wr.cell? ⟨gb541, 3, none⟩ = some (.slice Ao13 t534.length co13) := (blk_cell BK541.out 3).trans rfl
          have hfz69_0 := blk_frozen BK541.out 0
          have hfz69_1 := blk_frozen BK541.out 1
          have hfz69_2 := blk_frozen BK541.out 2
          have hfz69_3 := blk_frozen BK541.out 3
          go_wp2_with (first | ((with_reducible refine gate_callee (f := 22) rfl ?_); refine goesL_ (some 83) rfl rfl Try.func22 (by kernel_rfl) rfl #[.agg #[.int .i64 t529, .int .i64 t530, .slice Ao12 t531.length co12, .slice Ao13 t534.length co13]] rfl (by (try simp only [List.map_toArray, List.map_cons, List.map_nil]); first | done | rfl | (simp only [List.length_drop, List.length_take]; rfl)) ?_; (with_reducible refine (impl_GoodSegmented.calls k2 t529 t530 _ _ t531 _ _ t534 true _ ?side1 ?side2 ?side3 ?side4 A64.out).mono ?_); (case side1 => exact kc (Kd.R_reads' HO_542002.out).2.2); (case side2 => exact (Kd.R_reads' HO_542002.out).2.1); (case side3 => exact kc (Kd.R_reads' HO_542003.out).2.2); (case side4 => exact (Kd.R_reads' HO_542003.out).2.1); rintro e w70 ⟨rfl, hb⟩; refine ⟨_, rfl, ?_⟩; have n0_ := Aside0.mk (Kd.R_below (kr HO_64.out) hb); have n1_ := Aside0.mk (Kd.R_below (kr HO_542002.out) hb); have n2_ := Aside0.mk (Kd.R_below (kr HO_542003.out) hb); have n3_ := Aside0.mk (Kd.R_below (kr HO_555002.out) hb); have n4_ := Aside0.mk (Kd.R_below (kr HO_555003.out) hb); have n5_ := Aside0.mk (Kd.R_below (kr HO_558002.out) hb); have n6_ := Aside0.mk (Kd.R_below (kr HO_558003.out) hb); have n7_ := Aside0.mk (blk_below (bk BK541.out) hb); have n8_ := Aside0.mk (blk_below (bk BK554.out) hb); have n9_ := Aside0.mk (blk_below (bk BK557.out) hb); have n10_ := Aside0.mk (below_step (bl3 HB.out GE541.out GE554.out GE557.out) hb); clear HO_64; clear HO_542002; clear HO_542003; clear HO_555002; clear HO_555003; clear HO_558002; clear HO_558003; clear BK541; clear BK554; clear BK557; clear HB; have HO_64 := n0_; have HO_542002 := n1_; have HO_542003 := n2_; have HO_555002 := n3_; have HO_555003 := n4_; have HO_558002 := n5_; have HO_558003 := n6_; have BK541 := n7_; have BK554 := n8_; have BK557 := n9_; have HB := n10_; clear n0_ n1_ n2_ n3_ n4_ n5_ n6_ n7_ n8_ n9_ n10_; (try clear hb); (try clear hb2); (try clear hk); (try clear hi); have hnb71 := NB557_554.out; have hnc71 := NB554_557.out; have hcz72_0 : w70.cell? ⟨gb557, 0, none⟩ = some (.int .i64 x558000_2) := (blk_cell BK557.out 0).trans rfl; have hcz72_1 : w70.cell? ⟨gb557, 1, none⟩ = some (.int .i64 x558001_2) := (blk_cell BK557.out 1).trans rfl; have hcz72_2 : w70.cell? ⟨gb557, 2, none⟩ = some (u558002) := (blk_cell BK557.out 2).trans rfl; have hcz72_3 : w70.cell? ⟨gb557, 3, none⟩ = some (u558003) := (blk_cell BK557.out 3).trans rfl; have hfz72_0 := blk_frozen BK557.out 0; have hfz72_1 := blk_frozen BK557.out 1; have hfz72_2 := blk_frozen BK557.out 2; have hfz72_3 := blk_frozen BK557.out 3; have hcz73_0 : w70.cell? ⟨gb541, 0, none⟩ = some (.int .i64 t529) := (blk_cell BK541.out 0).trans rfl; have hcz73_1 : w70.cell? ⟨gb541, 1, none⟩ = some (.int .i64 t530) := (blk_cell BK541.out 1).trans rfl; have hcz73_2 : w70.cell? ⟨gb541, 2, none⟩ = some (.slice Ao12 t531.length co12) := (blk_cell BK541.out 2).trans rfl; have hcz73_3 : w70.cell? ⟨gb541, 3, none⟩ = some (.slice Ao13 t534.length co13) := (blk_cell BK541.out 3).trans rfl; have hfz73_0 := blk_frozen BK541.out 0; have hfz73_1 := blk_frozen BK541.out 1; have hfz73_2 := blk_frozen BK541.out 2; have hfz73_3 := blk_frozen BK541.out 3; obtain ⟨Ao74, co74, eo74⟩ := Kd.R_slice HO_558003.out; subst eo74) | (go_at_call 23; (with_reducible refine (laws_sameEntries.calls k2 _ _ x558003_2 _ _ t534 t576 _ ?side1 ?side2 ?side3 ?side4 A66.out).mono ?_); (case side1 => exact kc (Kd.R_reads' HO_558003.out).2.2); (case side2 => exact (Kd.R_reads' HO_558003.out).2.1); (case side3 => exact kc (Kd.R_reads' HO_542003.out).2.2); (case side4 => exact (Kd.R_reads' HO_542003.out).2.1); rintro e w' ⟨rfl, ⟨nd, rfl⟩⟩))
          go_ret
          exact ⟨by first | rfl | (simp [errW_none, errW_some] <;> rfl) | (simp [*, errW_none, errW_some] <;> rfl), bl3 HB.out GE541.out GE554.out GE557.out⟩
         ·replace c65 := Bool.eq_false_iff.mpr c65
          subst c65
          have H1 : (none) = some r := by rw [if_neg (show ¬ (false = true) by decide)] at H; exact H
          clear H
          have H := H1
          clear H1
          exact absurd H (by simp)
     ·replace c35 := Bool.eq_false_iff.mpr c35
      subst c35
      have H1 : (some ((t537.length : Int) == 0)) = some r := by rw [if_neg (show ¬ (false = true) by decide)] at H; exact H
      clear H
      have H := H1
      clear H1
      obtain rfl := Option.some.inj H
      obtain ⟨Ao75, co75, eo75⟩ := Kd.R_slice HO_7.out
      subst eo75
      go_wp2
      go_ret
      exact ⟨by first | rfl | (simp [errW_none, errW_some] <;> rfl) | (simp [*, errW_none, errW_some] <;> rfl), bl2 HB.out GE541.out GE554.out⟩

/-- THE ONE PURE STATEMENT of laws_FnScanned: yours. -/
def laws_FnScanned.Pure : Prop := ∀ (l0 : List Int), l0.length ≤ maxLen → l0.length * 1 ≤ 140737488351232 → (∀ x ∈ l0, (Lit.int .u8 x).wf = true) → ∃ k, laws_FnScanned.f k l0 = some true
theorem laws_FnScanned.walk (P : laws_FnScanned.Pure) (a0 : Option Addr) (len0 cap0 : Nat) (z0 : List Int) (w : World) (w0 : (a0 = none ∧ len0 = 0 ∧ cap0 = 0 ∧ z0 = []) ∨ ∃ x, a0 = some x ∧ len0 ≤ cap0 ∧ cap0 ≤ maxLen ∧ z0.length = cap0 ∧ (∀ i, i < z0.length → w.cell? (x.add i) = some (.int .u8 (z0.getD i 0))) ∧ ∀ n ∈ z0, (Lit.int .u8 n).wf = true) (y0 : len0 * 1 ≤ 140737488351232) :
  Calls Try.prog 4 #[.slice a0 len0 cap0] w fun e w' => e = .returned (.bool true) ∧ Below w.heap.size w w' := by
 obtain ⟨l0, rfl, hr0, hm0, hw0, hc0⟩ := ReadsInt.ofRowC w0
 obtain ⟨k, h⟩ := P l0 hm0 y0 hw0
 refine (laws_FnScanned.calls k _ _ l0 true w (Kd.C_of_reads (d := (0 : Int)) (h1 := fun _ => rfl) hr0) hc0 h).mono ?_
 rintro e w' ⟨rfl, hd⟩
 exact ⟨rfl, hd⟩

end Go.Proofs.Ytfopmaiednikhaa.PFnScanned
