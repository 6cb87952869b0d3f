-- written by a program of this session (wip/tool)
import Derived.Test.YtfopmaiednikhaaPFnPartsx0
import Derived.Test.YtfopmaiednikhaaPFnPartsx1
import Derived.Test.YtfopmaiednikhaaPFnPartsx2
import Derived.Test.YtfopmaiednikhaaVOwn0
import Derived.Test.YtfopmaiednikhaaVOwnOpen
import Derived.WalkKit
import Derived.BigCall
import Derived.Lib.SliceRun
import Derived.Deep.RegionLaw
import Derived.Maps.OwnSet
import Derived.Maps.OwnOps
import Derived.Maps.Views
import Derived.Test.YtfopmaiednikhaaVWZeros
import Derived.Test.YtfopmaiednikhaaVWArr
import Derived.Test.YtfopmaiednikhaaVOwnShort
import Derived.Test.YtfopmaiednikhaaOwnSq
namespace Go.Proofs.Ytfopmaiednikhaa.PFnParts
open Go.RowKit Go.Proofs.YtfopmaiednikhaaW.PrintWords Go.Proofs.YtfopmaiednikhaaW.PrintLast Go.Proofs.YtfopmaiednikhaaW.PrintMore Go.Shelf Go.Proofs.YtfopmaiednikhaaOwn
attribute [local go_sem] max2_int min2_int max_two min_two max_three min_three max_four min_four   -- for this text's walks alone
set_option linter.unusedVariables false
set_option linter.unusedSimpArgs false

attribute [local go_sem high] eqA45
/-! ### impl_Segmented_own: function 45 -/
def impl_Segmented_own.f (a0_0 : Int) (a0_1 : Int) (l0_2 : List (S45)) (l0_3 : List (S45)) : Option (Int × Int × (List (S45)) × (List (S45))) := (slices_CloneE.f l0_2).bind fun t110 => ((slices_CloneE.f l0_3).bind fun t113 => (some (a0_0, a0_1, t110, t113)))
def impl_Segmented_own.T1 : Bool × List (List Nat × List Nat) := (true, [([], []), ([0], [0]), ([1], [1]), ([], []), ([3], [3]), ([4, 2], [4]), ([0, 1, 2, 3, 4], []), ([6, 2, 5, 0, 1, 2, 3, 4], [2, 6]), ([0, 1, 2, 3, 4, 5, 6, 7], []), ([8, 5, 7, 0, 1, 2, 3, 4, 5, 6, 7], [5, 8])])
def impl_Segmented_own.B1 : List Nat := [0, 1, 3, 0, 8, 31, 31, 127, 255, 511]
theorem impl_Segmented_own.tab1 : rtab .any (opsOf Try.f45 1) = impl_Segmented_own.T1 := by kernel_rfl
theorem impl_Segmented_own.bits1 : waitsOk impl_Segmented_own.T1.2 impl_Segmented_own.B1 = true := by kernel_rfl
set_option maxHeartbeats 8000000 in
set_option maxRecDepth 100000 in
theorem impl_Segmented_own.calls (a0_0 : Int) (a0_1 : Int) (A0_2 : Option Addr) (c0_2 : Nat) (l0_2 : List (S45)) (A0_3 : Option Addr) (c0_3 : Nat) (l0_3 : List (S45)) (r1 : Int) (r2 : Int) (r3 : List (S45)) (r4 : List (S45)) (w : World) (hr0_2 : Kd.C k45 w A0_2 l0_2.length l0_2) (hc0_2 : l0_2.length ≤ c0_2) (hr0_3 : Kd.C k45 w A0_3 l0_3.length l0_3) (hc0_3 : l0_3.length ≤ c0_3) (h : impl_Segmented_own.f a0_0 a0_1 l0_2 l0_3 = some (r1, r2, r3, r4)) :
  Calls Try.prog 45 #[.agg #[.int .i64 a0_0, .int .i64 a0_1, .slice A0_2 l0_2.length c0_2, .slice A0_3 l0_3.length c0_3]] w fun e w' => ∃ v2_ v3_ : Value, e = .returned (.agg #[.int .i64 r1, .int .i64 r2, v2_, v3_]) ∧ Kd.R k45 45 w' w.heap.size (fun k_ => some k_ ≠ (v3_ : Value).ownBlock) v2_ r3 ∧ Kd.R k45 45 w' w.heap.size (fun k_ => some k_ ≠ (v2_ : Value).ownBlock) v3_ r4 ∧ Below w.heap.size w w' := by
 have hu28 := Try.underlying28
 have HR0_2 := ak hr0_2
 have HC0_2 := ak hc0_2
 clear hr0_2 hc0_2
 have HR0_3 := ak hr0_3
 have HC0_3 := ak hc0_3
 clear hr0_3 hc0_3
 have HB := ak (Below.refl w.heap.size w)
 have H : ((slices_CloneE.f l0_2).bind fun t110 => ((slices_CloneE.f l0_3).bind fun t113 => (some (a0_0, a0_1, t110, t113)))) = some (r1, r2, r3, r4) := h
 clear h
 replace H := Option.bind_eq_some_iff.mp H
 obtain ⟨t110, A20, H⟩ := H
 try dsimp only at H
 have A2 := ak A20
 clear A20
 replace H := Option.bind_eq_some_iff.mp H
 obtain ⟨t113, A30, H⟩ := H
 try dsimp only at H
 have A3 := ak A30
 clear A30
 simp only [Option.some.injEq, Prod.mk.injEq] at H
 obtain ⟨rfl, rfl, rfl, rfl⟩ := H
 go_enter Try.func45, Try.ntmps45
 try go_wp2_with (first | (refine bE 1 #[.int .i64 a0_0, .int .i64 a0_1, .slice A0_2 l0_2.length c0_2, .slice A0_3 l0_3.length c0_3] 28 ?_; intro gb108 hg w4 hbox hb; have BK108 := ak hbox; have GW108 := gs hg (bl HB.out); have GE108 := gs hg (bl HB.out); replace HB := ak (below_step (bl HB.out) hb); clear hb hbox hg) | (refine bE 2 #[.int .i64 0, .int .i64 0, .slice none 0 0, .slice none 0 0] 28 ?_; intro gb109 hg w5 hbox hb; have BK109 := ak hbox; have GW109 := gs hg (bl1 HB.out GE108.out); have GE109 := gs hg (bl1 HB.out GE108.out); replace HB := ak (below_step (bl1 HB.out GE108.out) hb); have NB108_109 := nl hg BK108.out; have NB109_108 := ng hg BK108.out; replace BK108 := ak (blk_below (bk BK108.out) hb); clear hb hbox hg))
 replace BK108 := ak (blk_drew BK108.out)
 replace BK109 := ak (blk_drew BK109.out)
 replace HB := ak (below_drew1 HB.out)
 refine start_ (n := 10) (S := fun w' => w'.cell? ⟨gb108, 0, none⟩ = some (.int .i64 a0_0) ∧ w'.cell? ⟨gb108, 1, none⟩ = some (.int .i64 a0_1) ∧ w'.cell? ⟨gb108, 2, none⟩ = some (.slice A0_2 l0_2.length c0_2) ∧ w'.cell? ⟨gb108, 3, none⟩ = some (.slice A0_3 l0_3.length c0_3)) (ds := [7, 9]) #[false, false, false, false, false, false, false, false, false, false] (by kernel_rfl) rfl rfl ⟨(blk_cell BK108.out 0).trans rfl, (blk_cell BK108.out 1).trans rfl, (blk_cell BK108.out 2).trans rfl, (blk_cell BK108.out 3).trans rfl⟩ (fun hHeld => ?_); refine with_tabW impl_Segmented_own.tab1 impl_Segmented_own.bits1 (fun HT_ HW_ => ?_)
 generalize w5.drew = w6 at BK108 BK109 HB hHeld ⊢
 refine pu 0 (some 3) HT_ ?_
 refine pu 3 (some 6) HT_ ?_
 refine tk 1 (some 4) HT_ HW_ hHeld ?_
 refine tk 4 (some 7) HT_ HW_ hHeld ?_
 refine on 2 (some 5) HT_ (fun K hK => ?_)
 refine gO Try.func69 #[.slice A0_2 l0_2.length c0_2] ?_
 with_reducible refine (slices_CloneE.calls _ _ l0_2 t110 _ ?side1 ?side2 A2.out).mono ?_
 (case side1 => exact kc (Kd.C_below HR0_2.out HB.out))
 (case side2 => exact HC0_2.out)
 rintro e w7 ⟨v111, rfl, ho0, hb⟩
 refine ⟨_, rfl, ?_⟩
 have HO112 := ak (Kd.R_lower ho0 (below_size (bl2 HB.out GE108.out GE109.out)))
 replace BK108 := ak (blk_below (bk BK108.out) hb)
 replace BK109 := ak (blk_below (bk BK109.out) hb)
 replace HB := ak (below_step (bl2 HB.out GE108.out GE109.out) hb)
 clear hb
 (try clear hb2)
 (try clear hk)
 (try clear hi)
 clear ho0
 refine hK.out _ _ ⟨(blk_cell BK108.out 0).trans rfl, (blk_cell BK108.out 1).trans rfl, (blk_cell BK108.out 2).trans rfl, (blk_cell BK108.out 3).trans rfl⟩ (fun hHeld => ?_)
 clear hK K
 refine norm_ (a' := ?_) ?_ ?_
 rotate_left
 ·show Act.put _ (some 5) _ = _
  simp only [Act.put, List.setIfInBounds_toArray, List.set_cons_zero, List.set_cons_succ, i64_w, i32_w]
  rfl
 refine pu 6 (some 9) HT_ ?_
 refine on 5 (some 8) HT_ (fun K hK => ?_)
 refine gO Try.func69 #[.slice A0_3 l0_3.length c0_3] ?_
 with_reducible refine (slices_CloneE.calls _ _ l0_3 t113 _ ?side1 ?side2 A3.out).mono ?_
 (case side1 => exact kc (Kd.C_below HR0_3.out HB.out))
 (case side2 => exact HC0_3.out)
 rintro e w8 ⟨v114, rfl, ho0, hb⟩
 refine ⟨_, rfl, ?_⟩
 have HO115 := ak (Kd.R_lower (Kd.R_new' ho0 (Kd.R_lt (kr HO112.out))) (below_size (bl2 HB.out GE108.out GE109.out)))
 replace HO112 := ak (Kd.R_elder' (kr HO112.out) (Kd.R_base ho0) hb)
 replace BK108 := ak (blk_below (bk BK108.out) hb)
 replace BK109 := ak (blk_below (bk BK109.out) hb)
 replace HB := ak (below_step (bl2 HB.out GE108.out GE109.out) hb)
 clear hb
 (try clear hb2)
 (try clear hk)
 (try clear hi)
 clear ho0
 obtain ⟨Ao9, co9, eo9⟩ := Kd.R_slice HO112.out
 (first | subst eo9 | (injection eo9 with f1_ f2_ f3_; have f4_ := f1_.symm; have f5_ := f3_.symm; clear f1_ f2_ f3_; subst f4_; subst f5_))
 obtain ⟨Ao11, co11, eo11⟩ := Kd.R_slice HO115.out
 (first | subst eo11 | (injection eo11 with f1_ f2_ f3_; have f4_ := f1_.symm; have f5_ := f3_.symm; clear f1_ f2_ f3_; subst f4_; subst f5_))
 refine hK.out _ _ ⟨(blk_cell BK108.out 0).trans rfl, (blk_cell BK108.out 1).trans rfl, (blk_cell BK108.out 2).trans rfl, (blk_cell BK108.out 3).trans rfl⟩ (fun hHeld => ?_)
 clear hK K
 refine norm_ (a' := ?_) ?_ ?_
 rotate_left
 ·show Act.put _ (some 8) _ = _
  simp only [Act.put, List.setIfInBounds_toArray, List.set_cons_zero, List.set_cons_succ, i64_w, i32_w]
  rfl
 refine last_ (i := 7) (N := none) #[true, true, true, true, true, true, true, true, false, false] rfl rfl (one_of HT_.out (by kernel_rfl)) (by decide) (fun K hK => ?_)
 have hs10 := bc2 BK108.out
 have hfs10 := blk_frozen BK108.out 2
 have hns10_1 := NB109_108.out
 have hms10_1 := NB108_109.out
 refine skip_ (w1 := ?_) (by rfl) rfl ?_ ?_
 rotate_left
 ·go_simp
  rfl
 refine hK.out _ _ ?_
 clear hK K
 refine pu 8 (some 10) HT_ ?_
 refine last_ (i := 9) (N := none) #[true, true, true, true, true, true, true, true, true, true] rfl rfl (one_of HT_.out (by kernel_rfl)) (by decide) (fun K hK => ?_)
 have hs12 := bc3 BK108.out
 have hfs12 := blk_frozen BK108.out 3
 have hns12_1 := NB109_108.out
 have hms12_1 := NB108_109.out
 refine skip_ (w1 := ?_) (by rfl) rfl ?_ ?_
 rotate_left
 ·go_simp
  rfl
 refine hK.out _ _ ?_
 clear hK K
 refine done_ (done_of HT_.out (by kernel_rfl)) ?_
 have hnb13 := NB108_109.out
 have hnc13 := NB109_108.out
 obtain ⟨hcz14_0, hcz14_1, hcz14_2, hcz14_3, hfz14_0, hfz14_1, hfz14_2, hfz14_3⟩ := b4 BK108.out
 obtain ⟨hcz15_0, hcz15_1, hcz15_2, hcz15_3, hfz15_0, hfz15_1, hfz15_2, hfz15_3⟩ := b4 BK109.out
 try go_wp2
 refine bodyPost_ret (results_cell_row rfl _ _ gb109 28 #[.int .i64 a0_0, .int .i64 a0_1, .slice Ao9 t110.length co9, .slice Ao11 t113.length co11] (0, 0) _ rfl (bq BK109.out) Try.underlying28 rfl (by kernel_rfl)) rfl ?_
 exact ⟨_, _, by first | rfl | (simp [errW_none, errW_some] <;> rfl) | (simp [*, errW_none, errW_some] <;> rfl), by (with_reducible repeat (first | apply Kd.R_alloc | apply Kd.R_drewN | apply Kd.R_drew)); exact Kd.R_mono (Kd.R_far (p := ⟨gb109, 3, none⟩) (Kd.R_far (p := ⟨gb109, 2, none⟩) (Kd.R_far (p := ⟨gb109, 1, none⟩) (Kd.R_far (p := ⟨gb109, 0, none⟩) (Kd.R_far (p := ⟨gb108, 3, none⟩) (Kd.R_far (p := ⟨gb108, 2, none⟩) (Kd.R_types (Kd.R_types HO112.out BK108.out (by decide)) BK109.out (by decide)) (fun _ hk => hk.1.2) (.slice Ao9 t110.length co9)) (fun _ hk => hk.1.2) (.slice Ao11 t113.length co11)) (fun _ hk => hk.2) (.int .i64 a0_0)) (fun _ hk => hk.2) (.int .i64 a0_1)) (fun _ hk => hk.2) (.slice Ao9 t110.length co9)) (fun _ hk => hk.2) (.slice Ao11 t113.length co11)) (fun _ hk => hk.1.1.2), by (with_reducible repeat (first | apply Kd.R_alloc | apply Kd.R_drewN | apply Kd.R_drew)); exact Kd.R_mono (Kd.R_far (p := ⟨gb109, 3, none⟩) (Kd.R_far (p := ⟨gb109, 2, none⟩) (Kd.R_far (p := ⟨gb109, 1, none⟩) (Kd.R_far (p := ⟨gb109, 0, none⟩) (Kd.R_far (p := ⟨gb108, 3, none⟩) (Kd.R_far (p := ⟨gb108, 2, none⟩) (Kd.R_types (Kd.R_types HO115.out BK108.out (by decide)) BK109.out (by decide)) (fun _ hk => hk.1.2) (.slice Ao9 t110.length co9)) (fun _ hk => hk.1.2) (.slice Ao11 t113.length co11)) (fun _ hk => hk.2) (.int .i64 a0_0)) (fun _ hk => hk.2) (.int .i64 a0_1)) (fun _ hk => hk.2) (.slice Ao9 t110.length co9)) (fun _ hk => hk.2) (.slice Ao11 t113.length co11)) (fun _ hk => hk.1.1.2), bl2 HB.out GE108.out GE109.out⟩

-- NOT PRINTED: function 87 (impl_find_1)

-- NOT PRINTED: function 70 (impl_find)

-- NOT PRINTED: function 71 (impl_Entry_71)

/-! ### slices.Delete over entries, one at a time: function 71 -/
theorem run_clear_entry (w : World) (ty : TypeId) (g o c : Nat) (hc : ∀ j, j < 2 → (w.cell? ⟨g, o + j, none⟩).isSome = true) (hf : ∀ j, j < 2 → w.frozen? ⟨g, o + j, none⟩ = false) :
  (Builtin.clear_ #[26] ty #[.slice (some ⟨g, o, none⟩) 1 c]).run Try.prog w = .ok (.tuple #[]) (w.setCells g o [.string ⟨#[]⟩, .string ⟨#[]⟩]) := by
 have hst := run_storeCells_cells (P := Try.prog) g o [Value.string ⟨#[]⟩, Value.string ⟨#[]⟩] 0 w (by simpa using hc) (by simpa using hf) (by intro v hv; simp at hv; subst hv; rfl)
 simp only [Nat.add_zero] at hst
 have hv : ∀ w, (zeroValue 45).run Try.prog w = .ok (.agg #[.string ⟨#[]⟩, .string ⟨#[]⟩]) w := fun w => by kernel_rfl
 have hz : (Builtin.zeroCells (Value.agg #[.string ⟨#[]⟩, .string ⟨#[]⟩]).cells 1).toList = [Value.string ⟨#[]⟩, Value.string ⟨#[]⟩] := by kernel_rfl
 simp [Builtin.clear_, run_underlying Try.underlying26, hv, hz, hst]
/-- What a row looks like where entry i is taken out of it and the last place is made zero. -/
theorem erase_row {w w' : World} {base g cap i : Nat} {ok : Nat → Prop} {xs : List S45} {cur cur' : Array Value} (h : k45.R 45 w base ok (.slice (some ⟨g, 0, none⟩) xs.length cap) xs)
  (hg : w.heap[g]? = some (.cells cur 45 (0, 0))) (hg' : w'.heap[g]? = some (.cells cur' 45 (0, 0))) (hs : cur'.size = cur.size) (hi : i < xs.length)
  (hc : cur'.toList.take ((xs.length - 1) * 2) = (cur.toList.take (xs.length * 2)).take (i * 2) ++ (cur.toList.take (xs.length * 2)).drop ((i + 1) * 2)) :
  k45.R 45 w' base ok (.slice (some ⟨g, 0, none⟩) (xs.length - 1) cap) (xs.eraseIdx i) := by
 obtain ⟨h0, inner, ⟨h1, h2⟩, h3⟩ := h
 have he : xs.eraseIdx i = xs.take i ++ xs.drop (i + 1) := List.eraseIdx_eq_take_drop_succ xs i
 have hl : (xs.eraseIdx i).length = xs.length - 1 := by rw [List.length_eraseIdx]; simp [hi]
 rcases h2 with ⟨h2, _⟩ | ⟨g1, cap1, cur1, e1, hb, hh, hn, hm, hsz, ht⟩
 ·cases h2
 ·obtain ⟨rfl, rfl⟩ : g1 = g ∧ cap1 = cap := by
   simp only [Value.slice.injEq, Option.some.injEq, Addr.mk.injEq] at e1
   exact ⟨e1.1.1.symm, e1.2.2.symm⟩
  rw [hg] at hh
  obtain rfl : cur = cur1 := by injection hh with hh; injection hh
  refine ⟨h0, (cur.toList.take (xs.length * 2)).take (i * 2) ++ (cur.toList.take (xs.length * 2)).drop ((i + 1) * 2), ?_, ?_⟩
  ·rw [hl]
   rw [show k45.sz = 2 from rfl] at hsz ⊢
   refine ⟨?_, .inr ⟨g1, cap1, cur', rfl, hb, hg', by omega, hm, by rw [hs, hsz], hc⟩⟩
   have : xs.length * 2 ≤ cap1 * 2 := Nat.mul_le_mul_right _ hn
   simp only [List.length_append, List.length_take, List.length_drop, Array.length_toList, hsz]
   omega
  ·have hk : k45.sz = 2 := rfl
   rw [hk] at ht h3
   rw [ht, he]
   have hrr : ∀ (p : S45) c, k45.M w base (fun k => ok k ∧ some k ≠ (Value.slice (some ⟨g1, 0, none⟩) xs.length cap1).ownBlock) p c → k45.M w' base (fun k => ok k ∧ some k ≠ (Value.slice (some ⟨g1, 0, none⟩) (xs.length - 1) cap1).ownBlock) p c :=
    fun p c hp => by rw [k45_openM hp]; exact k45_mkM _ _ _ _
   exact Kd.reps_append ((Kd.reps_take h3 (by omega)).imp_ hrr) ((Kd.reps_drop h3).imp_ hrr)
set_option maxHeartbeats 4000000 in
set_option maxRecDepth 1000000 in
theorem slices_DeleteE.calls (base g cap i : Nat) (ok : Nat → Prop) (xs : List S45) (w : World) (h : k45.R 45 w base ok (.slice (some ⟨g, 0, none⟩) xs.length cap) xs) (hi : i < xs.length) :
  Calls Try.prog 71 #[.slice (some ⟨g, 0, none⟩) xs.length cap, .int .i64 i, .int .i64 ((i : Int) + 1)] w fun e w' => e = .returned (.slice (some ⟨g, 0, none⟩) (xs.length - 1) cap) ∧ k45.R 45 w' base ok (.slice (some ⟨g, 0, none⟩) (xs.length - 1) cap) (xs.eraseIdx i) ∧ w.grownBy w' (some g) := by
 obtain ⟨cur, hcur⟩ : ∃ cur, w.heap[g]? = some (.cells cur 45 (0, 0)) := Kd.R_typed h g rfl
 obtain ⟨hcap, hmax, hsz⟩ : xs.length ≤ cap ∧ cap ≤ 9223372036854775807 ∧ cur.size = cap * 2 := by
  obtain ⟨_, inner, ⟨_, h2⟩, _⟩ := h
  rcases h2 with ⟨h2, _⟩ | ⟨g1, cap1, cur1, e1, hb, hh, hn, hm, hsz, ht⟩
  ·cases h2
  ·simp only [Value.slice.injEq, Option.some.injEq, Addr.mk.injEq] at e1
   obtain ⟨⟨rfl, _⟩, _, rfl⟩ := e1
   rw [hcur] at hh
   obtain rfl : cur = cur1 := by injection hh with hh; injection hh
   exact ⟨hn, hm, hsz⟩
 obtain ⟨i0, hi0, hii⟩ := Option.map_eq_some_iff.1 info45
 simp only [Prod.mk.injEq] at hii
 obtain ⟨_, hz1, _⟩ := hii
 obtain ⟨n, hn⟩ : ∃ n, n = xs.length := ⟨_, rfl⟩
 obtain ⟨news, hnews⟩ : ∃ news, news = (cur.toList.take (n * 2)).drop ((i + 1) * 2) := ⟨_, rfl⟩
 have hlen : news.length = (n - (i + 1)) * 2 := by
  rw [hnews]; simp only [List.length_drop, List.length_take, Array.length_toList, hsz]; omega
 have hcell : ∀ j, j < cap * 2 → ∀ q, (w.drewN q).cell? ⟨g, j, none⟩ = some (cur[j]!) := by
  intro j hj q
  show w.cell? _ = _
  rw [blk_cell hcur j, getElem!_pos cur j (by omega), Array.getElem?_eq_getElem (by omega)]
 have hfz : ∀ j, w.frozen? ⟨g, j, none⟩ = false := fun j => blk_frozen hcur j
 obtain ⟨A, hA, hsrc⟩ : ∃ A : Addr, (if cap = i + 1 then some (⟨g, 0, none⟩ : Addr) else some ⟨g, (i + 1) * 2, none⟩) = some A ∧ Hid (∀ t u, news[t]? = some u → w.drew.cell? (A.add t) = some u) := by
  by_cases hc : cap = i + 1
  ·refine ⟨⟨g, 0, none⟩, by simp [hc], fun t u hu => ?_⟩
   have h0 : news.length = 0 := by rw [hlen]; omega
   rw [List.length_eq_zero_iff.1 h0] at hu
   simp at hu
  ·refine ⟨⟨g, (i + 1) * 2, none⟩, by simp [hc], fun t u hu => ?_⟩
   rw [add_at]
   show w.cell? _ = _
   rw [blk_cell hcur]
   rw [hnews, List.getElem?_drop, List.getElem?_take] at hu
   split at hu
   ·rw [← Array.getElem?_toList]; exact hu
   ·cases hu
 have s1 : Hid (news.length = (n - (i + 1)) * 2) := hlen
 have s2 : Hid (∀ u ∈ news, u.oneCell' = true) := by
  intro u hu
  obtain ⟨_, inner, ⟨_, h2⟩, h3⟩ := h
  rcases h2 with ⟨h2, _⟩ | ⟨g1, cap1, cur1, e1, hb, hh, hn1, hm, hsz, ht⟩
  ·cases h2
  ·simp only [Value.slice.injEq, Option.some.injEq, Addr.mk.injEq] at e1
   obtain ⟨⟨rfl, _⟩, _, rfl⟩ := e1
   rw [hcur] at hh
   obtain rfl : cur = cur1 := by injection hh with hh; injection hh
   refine Kd.reps_one h3 (by decide) (fun p c hp => ?_) u ?_
   ·rw [k45_openM hp]; intro v hv; simp at hv; rcases hv with rfl | rfl <;> rfl
   ·rw [← ht]
    rw [hnews, hn] at hu
    exact List.mem_of_mem_drop hu
 have s3 : Hid (∀ t, t < news.length → (w.drew.cell? ⟨g, 0 + i * 2 + t, none⟩).isSome = true ∧ w.drew.frozen? ⟨g, 0 + i * 2 + t, none⟩ = false) := by
  intro t ht
  rw [hlen] at ht
  refine ⟨?_, hfz _⟩
  rw [show w.drew = w.drewN 1 from rfl, hcell _ (by omega)]; rfl
 obtain ⟨W1, hW1⟩ : ∃ W1, W1 = w.drew.setCells g (0 + i * 2) news := ⟨_, rfl⟩
 obtain ⟨cur1, hc1, hs1, ht1⟩ := setCells_row news (0 + i * 2) w.drew cur hcur (by omega)
 rw [← hW1] at hc1
 have hcl : ∀ ty, (Builtin.clear_ #[26] ty #[.slice (some ⟨g, (i + (n - (i + 1))) * 2, none⟩) (n - (i + (n - (i + 1)))) (cap - (i + (n - (i + 1))))]).run Try.prog W1 = .ok (.tuple #[]) (W1.setCells g ((i + (n - (i + 1))) * 2) [.string ⟨#[]⟩, .string ⟨#[]⟩]) := by
  intro ty
  rw [show n - (i + (n - (i + 1))) = 1 by omega]
  refine run_clear_entry W1 ty g _ _ (fun j hj => ?_) (fun j hj => blk_frozen hc1 _)
  rw [blk_cell hc1, Array.getElem?_eq_getElem (by omega)]; rfl
 obtain ⟨cur2, hc2, hs2, ht2⟩ := setCells_row [.string ⟨#[]⟩, .string ⟨#[]⟩] ((i + (n - (i + 1))) * 2) W1 cur1 hc1 (by simp; omega)
 have hres := erase_row (i := i) h hcur hc2 (by rw [hs2, hs1]) hi (by
  rw [ht2, ht1, ← hn, hnews]
  have e1 : (n - 1) * 2 = (i + (n - (i + 1))) * 2 := by omega
  rw [e1, List.append_assoc, List.take_left' (by simp only [List.length_take, List.length_append, List.length_drop, Array.length_toList, hsz]; omega)]
  rw [List.take_append_of_le_length (by simp only [List.length_take, List.length_append, List.length_drop, Array.length_toList, hsz]; omega)]
  rw [List.take_of_length_le (by simp only [List.length_take, List.length_append, List.length_drop, Array.length_toList, hsz]; omega), List.take_take, Nat.min_eq_left (by omega), Nat.zero_add])
 have hgrow : w.grownBy (W1.setCells g ((i + (n - (i + 1))) * 2) [.string ⟨#[]⟩, .string ⟨#[]⟩]) (some g) := by
  obtain ⟨a1, a2, a3, a4⟩ := setCells_same g news (0 + i * 2) w.drew
  obtain ⟨b1, b2, b3, b4⟩ := setCells_same g [.string ⟨#[]⟩, .string ⟨#[]⟩] ((i + (n - (i + 1))) * 2) W1
  rw [← hW1] at a1 a2 a3 a4
  refine ⟨b1.trans a1, b2.trans a2, b3.trans a3, by rw [b4, a4]; exact Nat.le_refl _, fun k _ hk => ?_⟩
  have hk' : k ≠ g := fun e => hk (by rw [e])
  rw [setCells_far _ _ k hk', hW1, setCells_far _ _ k hk']; rfl
 have HRES := ak hres
 have HGROW := ak hgrow
 have hW : Hid (W1 = w.drew.setCells g (0 + i * 2) news) := hW1
 have HN := ak hn
 have hic : i ≤ cap := by omega
 have hjc : i + 1 ≤ cap := by omega
 have hin : i + 1 ≤ n := by omega
 have hnc : n ≤ cap := by omega
 have u26 : ∀ w, Sem.run Try.prog (underlying 26) w = .ok (TypeDesc.slice 45) w := run_underlying Try.underlying26
 rw [← hn] at hi ⊢
 clear hW1 hcell hfz hlen hnews hres hgrow hc1 hs1 ht1 hc2 hs2 ht2 hcur hsz h hn hcap
 have hk1 : (0 ≤ (i : Int) + 1) = True := eq_true (by omega)
 have hk2 : ((i : Int) + 1 ≤ (n : Int)) = True := eq_true (by omega)
 go_enter Try.func71, Try.ntmps71
 go_wp2_with fail
 go_region_law (refine step_append_room rfl (.tmp 22) (.tmp 25) 26 rfl 45 i0 2 Try.underlying26 hi0 hz1 g 0 i cap (by simp [Act.eval, Act.put]) A (n - (i + 1)) (cap - (i + 1)) news (by simp [Act.eval, Act.put]) s1.out hsrc.out s2.out (by omega) s3.out ?_; rw [← hW.out])
 go_wp2
 go_ret
 have HR2 := HRES.out
 rw [← HN.out] at HR2
 exact ⟨by rw [show i + (n - (i + 1)) = n - 1 by omega]; rfl, HR2, HGROW.out⟩

/-! ### find over entries: functions 87, 86, 70 -/
/-- The place of the entry with a key, or -1. -/
def fndE (key : ByteArray) : List S45 → Int → Int
 | [], _ => -1
 | x :: xs, i => if (x.f0.toList == key.toList) = true then i else fndE key xs (i + 1)
set_option maxHeartbeats 800000 in
set_option maxRecDepth 100000 in
theorem fndE.one (b : Nat) (key : ByteArray) (x : S45) (w : World) (hb : b < w.heap.size) (hc : w.cell? ⟨b, 0, none⟩ = some (.string key)) :
  Calls Try.prog 87 #[.agg #[.string x.f0, .string x.f1], .pointer (some ⟨b, 0, none⟩)] w fun e w' => e = .returned (.bool (x.f0.toList == key.toList)) ∧ Below w.heap.size w w' := by
 go_enter Try.func87, Try.ntmps87
 go_wp2
 go_ret
 exact ⟨rfl, below_alloc (Below.refl _ _) _⟩
set_option maxHeartbeats 1600000 in
set_option maxRecDepth 100000 in
theorem fndE.idx (A : Option Addr) (c : Nat) (l : List S45) (key : ByteArray) (b : Nat) (w : World) (hr : Kd.C k45 w A l.length l) (hb : b < w.heap.size) (hcb : w.cell? ⟨b, 0, none⟩ = some (.string key)) :
  Calls Try.prog 86 #[.slice A l.length c, .func (.func 87) #[] #[.pointer (some ⟨b, 0, none⟩)]] w fun e w' => e = .returned (.int .i64 (fndE key l 0)) ∧ Below w.heap.size w w' := by
 have hm := Kd.C_max hr
 have eg87 : ∀ args w, (callFunc 87 args).run Try.prog w = .ok (.enter 87 args) w := enters_of Try.func87 (by kernel_rfl) rfl
 have HR := ak hr
 have HC := ak hcb
 clear hr hcb
 go_enter Try.func86, Try.ntmps86
 go_wp2
 go_loopg [5, 8] l.length (fun gg _ s8 wr => ∃ j : Nat, j ≤ l.length ∧ l.length - j ≤ gg ∧ s8 = .int .i64 j ∧ Aside0 (Below w.heap.size w wr) ∧ Aside0 (fndE key (l.drop j) j = fndE key l 0))
 case atStart => exact ⟨0, Nat.zero_le _, by omega, rfl, ⟨Below.refl _ _⟩, ⟨rfl⟩⟩
 case round =>
  obtain ⟨j, hj, hg, rfl, BW, HA⟩ := hrel
  by_cases hlt : j < l.length
  ·have hlt' : (j : Int) < (l.length : Int) := by omega
   have h0 : (0 : Int) ≤ (j : Int) := by omega
   have ha := HA.out
   rw [List.drop_eq_getElem_cons hlt] at ha
   simp only [fndE] at ha
   obtain ⟨ad, ea, hx0, hx1⟩ := at_T45 (Kd.C_below HR.out BW.out) (j : Int) h0 hlt'
   cases ea
   have e : rd_T45 l (j : Int) = l[j] := by
    show l.getD j _ = _
    rw [List.getD_eq_getElem?_getD, List.getElem?_eq_getElem hlt]; rfl
   rw [e] at hx0 hx1
   simp only [Int.toNat_natCast] at hx0 hx1
   have hbw : w.heap.size ≤ wr.heap.size := BW.out.size
   have hc2 := (BW.out.cell (p := ⟨b, 0, none⟩) hb).trans HC.out
   have hcall := fndE.one b key l[j] wr (by omega) hc2
   generalize l[j] = y at ha hx0 hx1 hcall
   have HA2 := ak ha
   have HK := ak hcall
   clear ha hcall hc2
   cases hbb : (y.f0.toList == key.toList) with
   | true =>
    rw [hbb] at HK HA2
    go_wp2_with (go_at_fn 87; refine HK.out.mono ?_; rintro e w' ⟨rfl, hb'⟩)
    go_ret
    exact ⟨congrArg (fun z => Ending.returned (.int .i64 z)) (by have := HA2.out; simpa using this), below_then BW.out hbw hb'⟩
   | false =>
    rw [hbb] at HK HA2
    go_wp2_with (go_at_fn 87; refine HK.out.mono ?_; rintro e w' ⟨rfl, hb'⟩)
    go_roundg (l.length - (j + 1))
    case measure => omega
    case rel => exact ⟨j + 1, by omega, by omega, by go_num, ⟨below_then BW.out hbw hb'⟩, ⟨by have := HA2.out; rw [if_neg (by simp)] at this; rw [← this]; congr 1⟩⟩
  ·have hlt' : ¬ (j : Int) < (l.length : Int) := by omega
   have : j = l.length := by omega
   subst this
   have HA2 := HA.out
   rw [List.drop_length] at HA2
   simp only [fndE] at HA2
   have HA3 := ak HA2
   clear HA2
   go_wp2
   go_ret
   exact ⟨congrArg (fun z => Ending.returned (.int .i64 z)) HA3.out, BW.out⟩
set_option maxHeartbeats 800000 in
set_option maxRecDepth 100000 in
theorem fndE.calls (A : Option Addr) (c : Nat) (l : List S45) (key : ByteArray) (w : World) (hr : Kd.C k45 w A l.length l) :
  Calls Try.prog 70 #[.slice A l.length c, .string key] w fun e w' => e = .returned (.int .i64 (fndE key l 0)) ∧ Below w.heap.size w w' := by
 have HR := ak hr
 clear hr
 have HI := fun (o : Obj) (ho : (w.alloc o).cell? ⟨w.heap.size, 0, none⟩ = some (.string key)) => fndE.idx A c l key w.heap.size (w.alloc o) (Kd.C_alloc HR.out _) (by simp) ho
 have HJ := ak HI
 clear HI
 go_enter Try.func70, Try.ntmps70
 go_wp2_with (go_at_call 86; refine (HJ.out _ (by simp)).mono ?_; rintro e w' ⟨rfl, hb'⟩)
 go_ret
 exact ⟨rfl, below_then (below_alloc (Below.refl _ _) _) (by simp) hb'⟩

/-! ### a cache in memory; take: function 46 -/
/-- Block g is a cache: its numbers, its two rows. -/
structure Seg (w : World) (base g : Nat) (n o : Int) (vt vs : Value) (t s : List S45) : Prop where
 blk : w.heap[g]? = some (.cells #[.int .i64 n, .int .i64 o, vt, vs] 28 (0, 0))
 ge : base ≤ g
 ht : Kd.R k45 45 w base (fun k => some k ≠ vs.ownBlock) vt t
 hs : Kd.R k45 45 w base (fun k => some k ≠ vt.ownBlock) vs s
/-- But for block g and two rows all is as it was. -/
def KeptS (w w' : World) (g : Nat) (vt vs : Value) : Prop := w.heap.size ≤ w'.heap.size ∧ ∀ k, k < w.heap.size → k ≠ g → some k ≠ vt.ownBlock → some k ≠ vs.ownBlock → w'.heap[k]? = w.heap[k]?
/-- A row of entries leads nowhere but to its own block. -/
theorem row_ok {w : World} {base : Nat} {ok ok' : Nat → Prop} {v : Value} {xs : List S45} (h : k45.R 45 w base ok v xs) (h' : ∀ k, v.ownBlock = some k → ok' k) : k45.R 45 w base ok' v xs :=
 ⟨h', h.2.imp_ (fun p c hp => by rw [k45_openM hp]; exact k45_mkM _ _ _ _)⟩
theorem row_move {w w' : World} {base : Nat} {ok : Nat → Prop} {v : Value} {xs : List S45} (h : k45.R 45 w base ok v xs) (hm : ∀ k, v.ownBlock = some k → w'.heap[k]? = w.heap[k]?) : k45.R 45 w' base ok v xs :=
 row_ok (Kd.R_step (row_ok h (ok' := fun k => v.ownBlock = some k) (fun k hk => hk)) (fun k hk _ => hm k hk)) h.1
theorem fndE_range (key : ByteArray) : ∀ (l : List S45) (i : Nat), fndE key l i = -1 ∨ (∃ j, j < l.length ∧ fndE key l i = (i + j : Nat))
 | [], i => .inl rfl
 | x :: xs, i => by
  simp only [fndE]
  by_cases c : (x.f0.toList == key.toList) = true
  ·rw [if_pos c]; exact .inr ⟨0, by simp, by simp⟩
  ·rw [if_neg c]
   rcases fndE_range key xs (i + 1) with h | ⟨j, hj, h⟩
   ·exact .inl h
   ·exact .inr ⟨j + 1, by simp; omega, by
     have h' : fndE key xs ((i : Int) + 1) = ((i + 1 + j : Nat) : Int) := h
     rw [h']; omega⟩
theorem fndE_at (key : ByteArray) (l : List S45) : fndE key l 0 = -1 ∨ (∃ j : Nat, j < l.length ∧ fndE key l 0 = j) := by
 rcases fndE_range key l 0 with h | ⟨j, hj, h⟩
 ·exact .inl h
 ·exact .inr ⟨j, hj, by rw [show (0 : Int) = ((0 : Nat) : Int) from rfl, h]; omega⟩
def takeE (key : ByteArray) (t s : List S45) : S45 × Bool × Bool × List S45 × List S45 :=
 if 0 ≤ fndE key s 0 then (rd_T45 s (fndE key s 0), true, true, t, s.eraseIdx (fndE key s 0).toNat)
 else if 0 ≤ fndE key t 0 then (rd_T45 t (fndE key t 0), false, true, t.eraseIdx (fndE key t 0).toNat, s)
 else (z45, false, false, t, s)
set_option maxHeartbeats 1000000 in
set_option maxRecDepth 100000 in
theorem take_safe (base g : Nat) (n o : Int) (vt vs : Value) (t s : List S45) (key : ByteArray) (w0 w : World) (hS : Seg w base g n o vt vs t s) (hB : Below base w0 w) (hsz : base ≤ w.heap.size) (i : Nat) (hi : i < s.length) (hf : fndE key s 0 = i) :
  Calls Try.prog 46 #[.pointer (some ⟨g, 0, none⟩), .string key] w fun e w' => e = .returned (.tuple #[.agg #[.string (rd_T45 s i).f0, .string (rd_T45 s i).f1], .bool true, .bool true]) ∧ (∃ vt' vs', Seg w' base g n o vt' vs' t (s.eraseIdx i)) ∧ Below base w0 w' ∧ KeptS w w' g vt vs := by
 obtain ⟨g1, cap, ev, _, _, _⟩ := Kd.R_form hS.hs (by omega)
 subst ev
 have HS := ak hS
 have HB := ak hB
 have hgl := blk_lt hS.blk
 have GL := ak hgl
 have HSZ := ak hsz
 have hi0 : decide (0 ≤ (i : Int)) = true := decide_eq_true (by omega)
 have hi1 : (0 ≤ (i : Int)) = True := eq_true (by omega)
 have hi2 : ((i : Int) < (s.length : Int)) = True := eq_true (by omega)
 have hmx := Kd.C_max (Kd.R_reads' hS.hs).2.2
 have hw : wrap64 ((i : Int) + 1) = (i : Int) + 1 := by unfold wrap64; omega
 have HF := ak hf
 have HI := ak hi
 have hc3 : w.cell? ⟨g, 3, none⟩ = some (.slice (some ⟨g1, 0, none⟩) s.length cap) := (blk_cell hS.blk 3).trans rfl
 clear hS hB hf hsz
 go_enter Try.func46, Try.ntmps46
 go_wp2_with (first
  | (refine bE 4 #[.string ⟨#[]⟩, .string ⟨#[]⟩] 45 ?_; intro g4 hg4 w1 hb4 hb; have HG4 := ak hg4; have B1 := ak hb; have K4 := ak hb4; have KG := ak (blk_below HS.out.blk hb); clear hg4 hb4 hb hc3; have hc3 : w1.cell? ⟨g, 3, none⟩ = some (.slice (some ⟨g1, 0, none⟩) s.length cap) := (blk_cell KG.out 3).trans rfl)
  | (go_at_call 70; refine (fndE.calls (some ⟨g1, 0, none⟩) cap s key _ (Kd.C_below (Kd.R_reads' HS.out.hs).2.2 B1.out)).mono ?_; rintro e w2 ⟨rfl, hb⟩; rw [HF.out]; have B2 := ak (below_then B1.out B1.out.size hb); have K4b := ak (blk_below K4.out hb); have KG2 := ak (blk_below KG.out hb); clear hb hc3; have hc3 : w2.cell? ⟨g, 3, none⟩ = some (.slice (some ⟨g1, 0, none⟩) s.length cap) := (blk_cell KG2.out 3).trans rfl; obtain ⟨ad, ea, hx0, hx1⟩ := at_T45 (Kd.C_below (Kd.R_reads' HS.out.hs).2.2 B2.out) (i : Int) (by omega) (by omega); cases ea; simp only [Int.toNat_natCast, add_plain] at hx0 hx1; have hg2 : g < w2.heap.size := blk_lt KG2.out; have hg42 : g4 < w2.heap.size := blk_lt K4b.out)
  | (go_at_call 71; refine (slices_DeleteE.calls base g1 cap i (fun k => some k ≠ vt.ownBlock) s _ (Kd.R_alloc (Kd.R_below HS.out.hs B2.out) _) HI.out).mono ?_; rintro e w3 ⟨rfl, ho, hgr⟩; have HO3 := ak ho; have HGR := ak hgr; have hg1l := Kd.R_lt HS.out.hs g1 rfl; have hne1 : g ≠ g1 := (fun h_ => Kd.R_ne HS.out.hs HS.out.blk (by decide) (by rw [h_]; rfl)); have hne2 : g4 ≠ g1 := (by have := HG4.out; omega); have hs2 := B2.out.size; have hne3 : w2.heap.size ≠ g1 := (by omega); have KG3 := ak (blk_grown (blk_alloc KG2.out _) hgr (by simpa using hne1)); have K43 := ak (blk_grown (blk_alloc K4b.out _) hgr (by simpa using hne2)); have K83 := ak (blk_grown (blk_new w2 _) hgr (by simpa using hne3)); clear ho hgr hx0 hx1 hc3; have hk0 := (blk_cell K83.out 0).trans rfl; have hk1 := (blk_cell K83.out 1).trans rfl; have hq0 := (blk_cell KG3.out 3).trans rfl; have hq1 := blk_frozen KG3.out 3; have hr0 := (blk_cell K43.out 0).trans rfl; have hr1 := (blk_cell K43.out 1).trans rfl; have hr2 := blk_frozen K43.out 0; have hr3 := blk_frozen K43.out 1; have hn1 : w2.heap.size ≠ g := (by omega); have hn2 : g4 ≠ g := (by have := HG4.out; have := GL.out; omega); have hn3 : g ≠ g4 := hn2.symm))
 have hg4l : g4 = w.heap.size := HG4.out
 have hfin : ∀ k, k < w.heap.size → k ≠ g → k ≠ g1 → (((w3.setCell ⟨g, 3, none⟩ (.slice (some ⟨g1, 0, none⟩) (s.length - 1) cap)).setCell ⟨g4, 0, none⟩ (.string (rd_T45 s (i : Int)).f0)).setCell ⟨g4, 1, none⟩ (.string (rd_T45 s (i : Int)).f1)).heap[k]? = w.heap[k]? := by
  intro k hk h1 h2
  have hs := B2.out.size
  rw [Below.heap_setCell _ _ _ k (by show k ≠ g4; omega), Below.heap_setCell _ _ _ k (by show k ≠ g4; omega), Below.heap_setCell _ _ _ k (by show k ≠ g; omega), HGR.out.block k (by simp only [World.size_alloc]; omega) (by simpa using h2), Below.heap_alloc _ _ k (by omega), B2.out.block k hk]
 have hsz3 := HGR.out.size
 simp only [World.size_alloc] at hsz3
 refine bodyPost_ret (results_ctt rfl _ _ g4 45 #[.string (rd_T45 s (i : Int)).f0, .string (rd_T45 s (i : Int)).f1] (0, 0) _ rfl (by refine blk_put (cs := #[.string (rd_T45 s (i : Int)).f0, .string ⟨#[]⟩]) ?_ 1 _ rfl; refine blk_put (cs := #[.string ⟨#[]⟩, .string ⟨#[]⟩]) ?_ 0 _ rfl; exact blk_far K43.out hn2 _) Try.underlying45 rfl (by kernel_rfl)) rfl ?_
 refine ⟨rfl, ⟨vt, .slice (some ⟨g1, 0, none⟩) (s.length - 1) cap, ⟨?_, HS.out.ge, ?_, ?_⟩⟩, ?_, ?_⟩
 ·refine blk_far ?_ hn3 _
  refine blk_far ?_ hn3 _
  exact blk_put (cs := #[.int .i64 n, .int .i64 o, vt, .slice (some ⟨g1, 0, none⟩) s.length cap]) KG3.out 3 _ rfl
 ·refine row_move (row_ok HS.out.ht (fun k hk => HS.out.ht.1 k hk)) (fun k hk => hfin k (Kd.R_lt HS.out.ht k hk) (fun e => Kd.R_ne HS.out.ht HS.out.blk (by decide) (by rw [hk, e])) (fun e => HS.out.ht.1 k hk (by rw [e]; rfl)))
 ·refine row_move HO3.out (fun k hk => ?_)
  obtain rfl : g1 = k := by simpa [Value.ownBlock] using hk
  rw [Below.heap_setCell _ _ _ g1 (by show g1 ≠ g4; omega), Below.heap_setCell _ _ _ g1 (by show g1 ≠ g4; omega), Below.heap_setCell _ _ _ g1 (by show g1 ≠ g; omega)]
 ·have hsz := HSZ.out
  exact (((((HB.out.trans (B2.out.mono hsz)).alloc (by omega) _).grown HGR.out (by simp only [World.size_alloc]; omega) (fun k hk => by cases hk; exact Kd.R_base HS.out.hs g1 rfl)).setCell HS.out.ge _).setCell (by show base ≤ g4; omega) _).setCell (by show base ≤ g4; omega) _
 ·refine ⟨by simp only [World.setCell, Array.size_modify]; omega, fun k hk h1 _ h3 => hfin k hk h1 (fun e => h3 (by rw [e]; rfl))⟩
set_option maxHeartbeats 1000000 in
set_option maxRecDepth 100000 in
theorem take_trial (base g : Nat) (n o : Int) (vt vs : Value) (t s : List S45) (key : ByteArray) (w0 w : World) (hS : Seg w base g n o vt vs t s) (hB : Below base w0 w) (hsz : base ≤ w.heap.size) (hf0 : fndE key s 0 = -1) (i : Nat) (hi : i < t.length) (hf : fndE key t 0 = i) :
  Calls Try.prog 46 #[.pointer (some ⟨g, 0, none⟩), .string key] w fun e w' => e = .returned (.tuple #[.agg #[.string (rd_T45 t i).f0, .string (rd_T45 t i).f1], .bool false, .bool true]) ∧ (∃ vt' vs', Seg w' base g n o vt' vs' (t.eraseIdx i) s) ∧ Below base w0 w' ∧ KeptS w w' g vt vs := by
 obtain ⟨g1, cap, ev, _, _, _⟩ := Kd.R_form hS.ht (by omega)
 subst ev
 obtain ⟨As, cs, es⟩ := Kd.R_slice hS.hs
 subst es
 have HS := ak hS
 have HB := ak hB
 have hgl := blk_lt hS.blk
 have GL := ak hgl
 have HSZ := ak hsz
 have hi0 : decide (0 ≤ (i : Int)) = true := decide_eq_true (by omega)
 have hi1 : (0 ≤ (i : Int)) = True := eq_true (by omega)
 have hi2 : ((i : Int) < (t.length : Int)) = True := eq_true (by omega)
 have hmx := Kd.C_max (Kd.R_reads' hS.ht).2.2
 have hw : wrap64 ((i : Int) + 1) = (i : Int) + 1 := by unfold wrap64; omega
 have HF := ak hf
 have HF0 := ak hf0
 have hm1 : decide ((0 : Int) ≤ -1) = false := by decide
 have HI := ak hi
 have hc3 : w.cell? ⟨g, 3, none⟩ = some (.slice As s.length cs) := (blk_cell hS.blk 3).trans rfl
 clear hS hB hf hf0 hsz
 go_enter Try.func46, Try.ntmps46
 go_wp2_with (first
  | (refine bE 4 #[.string ⟨#[]⟩, .string ⟨#[]⟩] 45 ?_; intro g4 hg4 w1 hb4 hb; have HG4 := ak hg4; have B1 := ak hb; have K4 := ak hb4; have KG := ak (blk_below HS.out.blk hb); clear hg4 hb4 hb hc3; have hc3 : w1.cell? ⟨g, 3, none⟩ = some (.slice As s.length cs) := (blk_cell KG.out 3).trans rfl)
  | (go_at_call 70; (with_reducible refine (fndE.calls As cs s key _ (Kd.C_below (Kd.R_reads' HS.out.hs).2.2 B1.out)).mono ?_); rintro e wm ⟨rfl, hb⟩; rw [HF0.out]; have BM := ak (below_then B1.out B1.out.size hb); have K4m := ak (blk_below K4.out hb); have KGm := ak (blk_below KG.out hb); clear hb hc3; have hc3 : wm.cell? ⟨g, 2, none⟩ = some (.slice (some ⟨g1, 0, none⟩) t.length cap) := (blk_cell KGm.out 2).trans rfl)
  | (go_at_call 70; (with_reducible refine (fndE.calls (some ⟨g1, 0, none⟩) cap t key _ (Kd.C_below (Kd.R_reads' HS.out.ht).2.2 BM.out)).mono ?_); rintro e w2 ⟨rfl, hb⟩; rw [HF.out]; have B2 := ak (below_then BM.out BM.out.size hb); have K4b := ak (blk_below K4m.out hb); have KG2 := ak (blk_below KGm.out hb); clear hb hc3; have hc3 : w2.cell? ⟨g, 2, none⟩ = some (.slice (some ⟨g1, 0, none⟩) t.length cap) := (blk_cell KG2.out 2).trans rfl; obtain ⟨ad, ea, hx0, hx1⟩ := at_T45 (Kd.C_below (Kd.R_reads' HS.out.ht).2.2 B2.out) (i : Int) (by omega) (by omega); cases ea; simp only [Int.toNat_natCast, add_plain] at hx0 hx1; have hg2 : g < w2.heap.size := blk_lt KG2.out; have hg42 : g4 < w2.heap.size := blk_lt K4b.out)
  | (go_at_call 71; refine (slices_DeleteE.calls base g1 cap i (fun k => some k ≠ (Value.slice As s.length cs).ownBlock) t _ (Kd.R_alloc (Kd.R_below HS.out.ht B2.out) _) HI.out).mono ?_; rintro e w3 ⟨rfl, ho, hgr⟩; have HO3 := ak ho; have HGR := ak hgr; have hg1l := Kd.R_lt HS.out.ht g1 rfl; have hne1 : g ≠ g1 := (fun h_ => Kd.R_ne HS.out.ht HS.out.blk (by decide) (by rw [h_]; rfl)); have hne2 : g4 ≠ g1 := (by have := HG4.out; omega); have hs2 := B2.out.size; have hne3 : w2.heap.size ≠ g1 := (by omega); have KG3 := ak (blk_grown (blk_alloc KG2.out _) hgr (by simpa using hne1)); have K43 := ak (blk_grown (blk_alloc K4b.out _) hgr (by simpa using hne2)); have K83 := ak (blk_grown (blk_new w2 _) hgr (by simpa using hne3)); clear ho hgr hx0 hx1 hc3; have hk0 := (blk_cell K83.out 0).trans rfl; have hk1 := (blk_cell K83.out 1).trans rfl; have hq0 := (blk_cell KG3.out 2).trans rfl; have hq1 := blk_frozen KG3.out 2; have hr0 := (blk_cell K43.out 0).trans rfl; have hr1 := (blk_cell K43.out 1).trans rfl; have hr2 := blk_frozen K43.out 0; have hr3 := blk_frozen K43.out 1; have hn1 : w2.heap.size ≠ g := (by omega); have hn2 : g4 ≠ g := (by have := HG4.out; have := GL.out; omega); have hn3 : g ≠ g4 := hn2.symm))
 have hg4l : g4 = w.heap.size := HG4.out
 have hfin : ∀ k, k < w.heap.size → k ≠ g → k ≠ g1 → (((w3.setCell ⟨g, 2, none⟩ (.slice (some ⟨g1, 0, none⟩) (t.length - 1) cap)).setCell ⟨g4, 0, none⟩ (.string (rd_T45 t (i : Int)).f0)).setCell ⟨g4, 1, none⟩ (.string (rd_T45 t (i : Int)).f1)).heap[k]? = w.heap[k]? := by
  intro k hk h1 h2
  have hs := B2.out.size
  rw [Below.heap_setCell _ _ _ k (by show k ≠ g4; omega), Below.heap_setCell _ _ _ k (by show k ≠ g4; omega), Below.heap_setCell _ _ _ k (by show k ≠ g; omega), HGR.out.block k (by simp only [World.size_alloc]; omega) (by simpa using h2), Below.heap_alloc _ _ k (by omega), B2.out.block k hk]
 have hsz3 := HGR.out.size
 simp only [World.size_alloc] at hsz3
 refine bodyPost_ret (results_ctt rfl _ _ g4 45 #[.string (rd_T45 t (i : Int)).f0, .string (rd_T45 t (i : Int)).f1] (0, 0) _ rfl (by refine blk_put (cs := #[.string (rd_T45 t (i : Int)).f0, .string ⟨#[]⟩]) ?_ 1 _ rfl; refine blk_put (cs := #[.string ⟨#[]⟩, .string ⟨#[]⟩]) ?_ 0 _ rfl; exact blk_far K43.out hn2 _) Try.underlying45 rfl (by kernel_rfl)) rfl ?_
 refine ⟨rfl, ⟨.slice (some ⟨g1, 0, none⟩) (t.length - 1) cap, .slice As s.length cs, ⟨?_, HS.out.ge, ?_, ?_⟩⟩, ?_, ?_⟩
 ·refine blk_far ?_ hn3 _
  refine blk_far ?_ hn3 _
  exact blk_put (cs := #[.int .i64 n, .int .i64 o, .slice (some ⟨g1, 0, none⟩) t.length cap, .slice As s.length cs]) KG3.out 2 _ rfl
 ·refine row_move HO3.out (fun k hk => ?_)
  obtain rfl : g1 = k := by simpa [Value.ownBlock] using hk
  rw [Below.heap_setCell _ _ _ g1 (by show g1 ≠ g4; omega), Below.heap_setCell _ _ _ g1 (by show g1 ≠ g4; omega), Below.heap_setCell _ _ _ g1 (by show g1 ≠ g; omega)]
 ·refine row_move (row_ok HS.out.hs (fun k hk => HS.out.hs.1 k hk)) (fun k hk => hfin k (Kd.R_lt HS.out.hs k hk) (fun e => Kd.R_ne HS.out.hs HS.out.blk (by decide) (by rw [hk, e])) (fun e => HS.out.hs.1 k hk (by rw [e]; rfl)))
 ·have hsz := HSZ.out
  exact (((((HB.out.trans (B2.out.mono hsz)).alloc (by omega) _).grown HGR.out (by simp only [World.size_alloc]; omega) (fun k hk => by cases hk; exact Kd.R_base HS.out.ht g1 rfl)).setCell HS.out.ge _).setCell (by show base ≤ g4; omega) _).setCell (by show base ≤ g4; omega) _
 ·refine ⟨by simp only [World.setCell, Array.size_modify]; omega, fun k hk h1 h3 _ => hfin k hk h1 (fun e => h3 (by rw [e]; rfl))⟩
set_option maxHeartbeats 1000000 in
set_option maxRecDepth 100000 in
theorem take_none (base g : Nat) (n o : Int) (vt vs : Value) (t s : List S45) (key : ByteArray) (w0 w : World) (hS : Seg w base g n o vt vs t s) (hB : Below base w0 w) (hsz : base ≤ w.heap.size) (hf0 : fndE key s 0 = -1) (hf : fndE key t 0 = -1) :
  Calls Try.prog 46 #[.pointer (some ⟨g, 0, none⟩), .string key] w fun e w' => e = .returned (.tuple #[.agg #[.string ⟨#[]⟩, .string ⟨#[]⟩], .bool false, .bool false]) ∧ (∃ vt' vs', Seg w' base g n o vt' vs' t s) ∧ Below base w0 w' ∧ KeptS w w' g vt vs := by
 obtain ⟨At, ct, et⟩ := Kd.R_slice hS.ht
 subst et
 obtain ⟨As, cs, es⟩ := Kd.R_slice hS.hs
 subst es
 have HS := ak hS
 have HB := ak hB
 have hgl := blk_lt hS.blk
 have GL := ak hgl
 have HSZ := ak hsz
 have HF := ak hf
 have HF0 := ak hf0
 have hm1 : decide ((0 : Int) ≤ -1) = false := by decide
 have hc3 : w.cell? ⟨g, 3, none⟩ = some (.slice As s.length cs) := (blk_cell hS.blk 3).trans rfl
 clear hS hB hf hf0 hsz
 go_enter Try.func46, Try.ntmps46
 go_wp2_with (first
  | (refine bE 4 #[.string ⟨#[]⟩, .string ⟨#[]⟩] 45 ?_; intro g4 hg4 w1 hb4 hb; have HG4 := ak hg4; have B1 := ak hb; have K4 := ak hb4; have KG := ak (blk_below HS.out.blk hb); clear hg4 hb4 hb hc3; have hc3 : w1.cell? ⟨g, 3, none⟩ = some (.slice As s.length cs) := (blk_cell KG.out 3).trans rfl)
  | (go_at_call 70; (with_reducible refine (fndE.calls As cs s key w1 (Kd.C_below (Kd.R_reads' HS.out.hs).2.2 B1.out)).mono ?_); rintro e wm ⟨rfl, hb⟩; rw [HF0.out]; have BM := ak (below_then B1.out B1.out.size hb); have K4m := ak (blk_below K4.out hb); have KGm := ak (blk_below KG.out hb); clear hb hc3; have hc3 : wm.cell? ⟨g, 2, none⟩ = some (.slice At t.length ct) := (blk_cell KGm.out 2).trans rfl)
  | (go_at_call 70; (with_reducible refine (fndE.calls At ct t key _ (Kd.C_below (Kd.R_reads' HS.out.ht).2.2 BM.out)).mono ?_); rintro e w2 ⟨rfl, hb⟩; rw [HF.out]; have B2 := ak (below_then BM.out BM.out.size hb); have K42 := ak (blk_below K4m.out hb); have KG2 := ak (blk_below KGm.out hb); clear hb hc3; have hr0 := (blk_cell K42.out 0).trans rfl; have hr1 := (blk_cell K42.out 1).trans rfl; have hr2 := blk_frozen K42.out 0; have hr3 := blk_frozen K42.out 1))
 have hg4l : g4 = w.heap.size := HG4.out
 have hn3 : g ≠ g4 := by omega
 have hfin : ∀ k, k < w.heap.size → ((w2.setCell ⟨g4, 0, none⟩ (.string ⟨#[]⟩)).setCell ⟨g4, 1, none⟩ (.string ⟨#[]⟩)).heap[k]? = w.heap[k]? := by
  intro k hk
  rw [Below.heap_setCell _ _ _ k (by show k ≠ g4; omega), Below.heap_setCell _ _ _ k (by show k ≠ g4; omega), B2.out.block k hk]
 refine bodyPost_ret (results_ctt rfl _ _ g4 45 #[.string ⟨#[]⟩, .string ⟨#[]⟩] (0, 0) _ rfl (by refine blk_put (cs := #[.string ⟨#[]⟩, .string ⟨#[]⟩]) ?_ 1 _ rfl; exact blk_put (cs := #[.string ⟨#[]⟩, .string ⟨#[]⟩]) K42.out 0 _ rfl) Try.underlying45 rfl (by kernel_rfl)) rfl ?_
 refine ⟨rfl, ⟨.slice At t.length ct, .slice As s.length cs, ⟨(hfin g GL.out).trans HS.out.blk, HS.out.ge, ?_, ?_⟩⟩, ?_, ?_⟩
 ·exact row_move HS.out.ht (fun k hk => hfin k (Kd.R_lt HS.out.ht k hk))
 ·exact row_move HS.out.hs (fun k hk => hfin k (Kd.R_lt HS.out.hs k hk))
 ·have hsz := HSZ.out
  exact ((HB.out.trans (B2.out.mono hsz)).setCell (by show base ≤ g4; omega) _).setCell (by show base ≤ g4; omega) _
 ·refine ⟨by simp only [World.setCell, Array.size_modify]; exact B2.out.size, fun k hk _ _ _ => hfin k hk⟩
theorem take.calls (base g : Nat) (n o : Int) (vt vs : Value) (t s : List S45) (key : ByteArray) (w0 w : World) (hS : Seg w base g n o vt vs t s) (hB : Below base w0 w) (hsz : base ≤ w.heap.size) :
  Calls Try.prog 46 #[.pointer (some ⟨g, 0, none⟩), .string key] w fun e w' => e = .returned (.tuple #[.agg #[.string (takeE key t s).1.f0, .string (takeE key t s).1.f1], .bool (takeE key t s).2.1, .bool (takeE key t s).2.2.1]) ∧ (∃ vt' vs', Seg w' base g n o vt' vs' (takeE key t s).2.2.2.1 (takeE key t s).2.2.2.2) ∧ Below base w0 w' ∧ KeptS w w' g vt vs := by
 unfold takeE
 rcases fndE_at key s with h | ⟨i, hi, h⟩
 ·rcases fndE_at key t with h' | ⟨i, hi, h'⟩
  ·rw [h, h', if_neg (by omega), if_neg (by omega)]
   exact take_none base g n o vt vs t s key w0 w hS hB hsz h h'
  ·rw [h, h', if_neg (by omega), if_pos (by omega)]
   exact take_trial base g n o vt vs t s key w0 w hS hB hsz h i hi h'
 ·rw [h, if_pos (by omega)]
  exact take_safe base g n o vt vs t s key w0 w hS hB hsz i hi h

/-! ### own's numbers -/
/-- own's numbers are those that came in. -/
theorem own_numbers {a0_0 a0_1 : Int} {l0_2 l0_3 : List S45} {r1 r2 : Int} {r3 r4 : List S45} (h : impl_Segmented_own.f a0_0 a0_1 l0_2 l0_3 = some (r1, r2, r3, r4)) : a0_0 = r1 ∧ a0_1 = r2 := by
 unfold impl_Segmented_own.f at h
 obtain ⟨_, _, h⟩ := Option.bind_eq_some_iff.mp h
 obtain ⟨_, _, h⟩ := Option.bind_eq_some_iff.mp h
 simp only [Option.some.injEq, Prod.mk.injEq] at h
 exact ⟨h.1, h.2.1⟩

/-! ### DropEntry: function 12 -/
def impl_DropEntry.f (k : Nat) (a0_0 : Int) (a0_1 : Int) (l0_2 : List (S45)) (l0_3 : List (S45)) (a1 : ByteArray) : Option (Int × Int × (List (S45)) × (List (S45)) × Bool) := (impl_GoodSegmented.f k a0_0 a0_1 l0_2 l0_3).bind fun g => (if g = true then ((impl_Segmented_own.f a0_0 a0_1 l0_2 l0_3).bind fun o => (if (takeE a1 o.2.2.1 o.2.2.2).2.2.1 = true then some (o.1, o.2.1, (takeE a1 o.2.2.1 o.2.2.2).2.2.2.1, (takeE a1 o.2.2.1 o.2.2.2).2.2.2.2, true) else some (0, 0, ([] : List S45), ([] : List S45), false))) else some (0, 0, ([] : List S45), ([] : List S45), false))
theorem impl_DropEntry.mono : ∀ a0_0 a0_1 l0_2 l0_3 a1 k, LeO (impl_DropEntry.f k a0_0 a0_1 l0_2 l0_3 a1) (impl_DropEntry.f (k + 1) a0_0 a0_1 l0_2 l0_3 a1) := by
 intro a0_0 a0_1 l0_2 l0_3 a1 k
 unfold impl_DropEntry.f
 repeat' first
   | (with_reducible exact impl_GoodSegmented.mono _ _ _ _ _)
   | (with_reducible exact LeO.refl _)
   | (with_reducible exact LeO.none _)
   | (with_reducible refine LeO.ite ?_ ?_)
   | (with_reducible refine LeO.bind ?_ (fun _ => ?_))

set_option maxHeartbeats 4000000 in
set_option maxRecDepth 100000 in
theorem impl_DropEntry.calls (k : Nat) (a0_0 : Int) (a0_1 : Int) (A0_2 : Option Addr) (c0_2 : Nat) (l0_2 : List (S45)) (A0_3 : Option Addr) (c0_3 : Nat) (l0_3 : List (S45)) (a1 : ByteArray) (r1 : Int) (r2 : Int) (r3 : List (S45)) (r4 : List (S45)) (r5 : Bool) (w : World) (hr0_2 : Kd.C k45 w A0_2 l0_2.length l0_2) (hc0_2 : l0_2.length ≤ c0_2) (hr0_3 : Kd.C k45 w A0_3 l0_3.length l0_3) (hc0_3 : l0_3.length ≤ c0_3) (h : impl_DropEntry.f k a0_0 a0_1 l0_2 l0_3 a1 = some (r1, r2, r3, r4, r5)) :
  Calls Try.prog 12 #[.agg #[.int .i64 a0_0, .int .i64 a0_1, .slice A0_2 l0_2.length c0_2, .slice A0_3 l0_3.length c0_3], .string a1] w fun e w' => ∃ v2_ v3_ : Value, e = .returned (.tuple #[.agg #[.int .i64 r1, .int .i64 r2, v2_, v3_], .bool r5]) ∧ Kd.R k45 45 w' w.heap.size (fun k_ => some k_ ≠ (v3_ : Value).ownBlock) v2_ r3 ∧ Kd.R k45 45 w' w.heap.size (fun k_ => some k_ ≠ (v2_ : Value).ownBlock) v3_ r4 ∧ Below w.heap.size w w' := by
 have HR2 := ak hr0_2
 have HR3 := ak hr0_3
 have HC2 := ak hc0_2
 have HC3 := ak hc0_3
 clear hr0_2 hr0_3 hc0_2 hc0_3
 have hu28 := Try.underlying28
 have hu45 := Try.underlying45
 unfold impl_DropEntry.f at h
 obtain ⟨gd, A0, h⟩ := Option.bind_eq_some_iff.mp h
 have A0 := ak A0
 cases gd with
 | false =>
  simp only [Bool.false_eq_true, if_false, Option.some.injEq, Prod.mk.injEq] at h
  obtain ⟨rfl, rfl, rfl, rfl, rfl⟩ := h
  go_enter Try.func12, Try.ntmps12
  go_wp2_with (first
     | (refine bE 2 #[.int .i64 a0_0, .int .i64 a0_1, .slice A0_2 l0_2.length c0_2, .slice A0_3 l0_3.length c0_3] 28 ?_; intro b2 hb2 x1 kb hb; have HB := ak hb; have K2 := ak kb; clear hb kb hb2)
     | (refine bE 4 #[.int .i64 0, .int .i64 0, .slice none 0 0, .slice none 0 0] 28 ?_; intro b4 hb4 x2 kb hb; have G4 : Aside0 (w.heap.size ≤ b4) := ⟨by rw [hb4]; exact HB.out.size⟩; have n0_ := ak (below_then HB.out HB.out.size hb); have n1_ := ak (blk_below K2.out hb); clear HB K2; have HB := n0_; have K2 := n1_; have K4 := ak kb; clear hb kb hb4 n0_ n1_; have hz0 : x2.cell? ⟨b2, 0, none⟩ = some (.int .i64 a0_0) := (blk_cell K2.out 0).trans rfl; have hz1 : x2.cell? ⟨b2, 1, none⟩ = some (.int .i64 a0_1) := (blk_cell K2.out 1).trans rfl; have hz2 : x2.cell? ⟨b2, 2, none⟩ = some (.slice A0_2 l0_2.length c0_2) := (blk_cell K2.out 2).trans rfl; have hz3 : x2.cell? ⟨b2, 3, none⟩ = some (.slice A0_3 l0_3.length c0_3) := (blk_cell K2.out 3).trans rfl)
     | (go_at_call 22; (with_reducible refine (impl_GoodSegmented.calls k a0_0 a0_1 A0_2 c0_2 l0_2 A0_3 c0_3 l0_3 false x2 (Kd.C_below HR2.out HB.out) HC2.out (Kd.C_below HR3.out HB.out) HC3.out A0.out).mono ?_); rintro e x3 ⟨rfl, hb⟩; have n0_ := ak (below_then HB.out HB.out.size hb); have n1_ := ak (blk_below K2.out hb); have n2_ := ak (blk_below K4.out hb); clear HB K2 K4 hz0 hz1 hz2 hz3; have HB := n0_; have K2 := n1_; have K4 := n2_; clear hb n0_ n1_ n2_; have hu0 := (blk_cell K4.out 0).trans rfl; have hu1 := (blk_cell K4.out 1).trans rfl; have hu2 := (blk_cell K4.out 2).trans rfl; have hu3 := (blk_cell K4.out 3).trans rfl; have hv0 := blk_frozen K4.out 0; have hv1 := blk_frozen K4.out 1; have hv2 := blk_frozen K4.out 2; have hv3 := blk_frozen K4.out 3))
  have h3w : w.heap.size ≤ x3.heap.size := HB.out.size
  have h4w := G4.out
  refine bodyPost_ret (results_ct rfl _ _ b4 28 #[.int .i64 0, .int .i64 0, .slice none 0 0, .slice none 0 0] (0, 0) _ rfl (by refine blk_put (cs := #[.int .i64 0, .int .i64 0, .slice none 0 0, .slice none 0 0]) ?_ 3 _ rfl; refine blk_put (cs := #[.int .i64 0, .int .i64 0, .slice none 0 0, .slice none 0 0]) ?_ 2 _ rfl; refine blk_put (cs := #[.int .i64 0, .int .i64 0, .slice none 0 0, .slice none 0 0]) ?_ 1 _ rfl; exact blk_put (cs := #[.int .i64 0, .int .i64 0, .slice none 0 0, .slice none 0 0]) K4.out 0 _ rfl) Try.underlying28 rfl (by kernel_rfl)) rfl ?_
  exact ⟨_, _, rfl, Kd.R_nil _ _ _ _ _, Kd.R_nil _ _ _ _ _, ((((HB.out.setCell (show w.heap.size ≤ b4 by omega) _).setCell (show w.heap.size ≤ b4 by omega) _).setCell (show w.heap.size ≤ b4 by omega) _).setCell (show w.heap.size ≤ b4 by omega) _)⟩
 | true =>
  rw [if_pos rfl] at h
  obtain ⟨⟨o1, o2, t0, s0⟩, A1, h2⟩ := Option.bind_eq_some_iff.mp h
  clear h
  obtain ⟨rfl, rfl⟩ := own_numbers A1
  have h := h2
  clear h2
  dsimp only at h
  have A1 := ak A1
  by_cases hc : (takeE a1 t0 s0).2.2.1 = true
  ·rw [if_pos hc, Option.some.injEq] at h
   simp only [Prod.mk.injEq] at h
   obtain ⟨rfl, rfl, rfl, rfl, rfl⟩ := h
   have HTK : Aside0 ((takeE a1 t0 s0).2.2.1 = true) := ⟨hc⟩
   clear hc
   go_enter Try.func12, Try.ntmps12
   go_wp2_with (first
     | (refine bE 2 #[.int .i64 a0_0, .int .i64 a0_1, .slice A0_2 l0_2.length c0_2, .slice A0_3 l0_3.length c0_3] 28 ?_; intro b2 hb2 x1 kb hb; have HB := ak hb; have K2 := ak kb; clear hb kb hb2)
     | (refine bE 4 #[.int .i64 0, .int .i64 0, .slice none 0 0, .slice none 0 0] 28 ?_; intro b4 hb4 x2 kb hb; have G4 : Aside0 (w.heap.size ≤ b4) := ⟨by rw [hb4]; exact HB.out.size⟩; have n0_ := ak (below_then HB.out HB.out.size hb); have n1_ := ak (blk_below K2.out hb); clear HB K2; have HB := n0_; have K2 := n1_; have K4 := ak kb; clear hb kb hb4 n0_ n1_; have hz0 : x2.cell? ⟨b2, 0, none⟩ = some (.int .i64 a0_0) := (blk_cell K2.out 0).trans rfl; have hz1 : x2.cell? ⟨b2, 1, none⟩ = some (.int .i64 a0_1) := (blk_cell K2.out 1).trans rfl; have hz2 : x2.cell? ⟨b2, 2, none⟩ = some (.slice A0_2 l0_2.length c0_2) := (blk_cell K2.out 2).trans rfl; have hz3 : x2.cell? ⟨b2, 3, none⟩ = some (.slice A0_3 l0_3.length c0_3) := (blk_cell K2.out 3).trans rfl)
     | (go_at_call 22; (with_reducible refine (impl_GoodSegmented.calls k a0_0 a0_1 A0_2 c0_2 l0_2 A0_3 c0_3 l0_3 true x2 (Kd.C_below HR2.out HB.out) HC2.out (Kd.C_below HR3.out HB.out) HC3.out A0.out).mono ?_); rintro e x3 ⟨rfl, hb⟩; have n0_ := ak (below_then HB.out HB.out.size hb); have n1_ := ak (blk_below K2.out hb); have n2_ := ak (blk_below K4.out hb); clear HB K2 K4 hz0 hz1 hz2 hz3; have HB := n0_; have K2 := n1_; have K4 := n2_; clear hb n0_ n1_ n2_; have hz0 : x3.cell? ⟨b2, 0, none⟩ = some (.int .i64 a0_0) := (blk_cell K2.out 0).trans rfl; have hz1 : x3.cell? ⟨b2, 1, none⟩ = some (.int .i64 a0_1) := (blk_cell K2.out 1).trans rfl; have hz2 : x3.cell? ⟨b2, 2, none⟩ = some (.slice A0_2 l0_2.length c0_2) := (blk_cell K2.out 2).trans rfl; have hz3 : x3.cell? ⟨b2, 3, none⟩ = some (.slice A0_3 l0_3.length c0_3) := (blk_cell K2.out 3).trans rfl)
     | (go_at_call 45; (with_reducible refine (impl_Segmented_own.calls a0_0 a0_1 A0_2 c0_2 l0_2 A0_3 c0_3 l0_3 a0_0 a0_1 t0 s0 x3 (Kd.C_below HR2.out HB.out) HC2.out (Kd.C_below HR3.out HB.out) HC3.out A1.out).mono ?_); rintro e x4 ⟨vt, vs, rfl, ho1, ho2, hb⟩; have HT := ak ho1; have HS := ak ho2; have BO := ak hb; clear ho1 ho2 hb hz0 hz1 hz2 hz3; obtain ⟨At, ct, et⟩ := Kd.R_slice HT.out; subst et; obtain ⟨As, cs, es⟩ := Kd.R_slice HS.out; subst es)
     | (go_at_call 46; refine (take.calls x3.heap.size x4.heap.size a0_0 a0_1 (.slice At t0.length ct) (.slice As s0.length cs) t0 s0 a1 x3 _ ⟨blk_new x4 _, BO.out.size, Kd.R_alloc HT.out _, Kd.R_alloc HS.out _⟩ (BO.out.alloc BO.out.size _) (by have := BO.out.size; simp only [World.size_alloc]; omega)).mono ?_; rintro e x5 ⟨rfl, ⟨vt', vs', hseg⟩, hb, hk⟩; rw [HTK.out]; have SG := ak hseg; have B5 := ak hb; clear hseg hb hk; obtain ⟨At', ct', et⟩ := Kd.R_slice SG.out.ht; subst et; obtain ⟨As', cs', es⟩ := Kd.R_slice SG.out.hs; subst es; have hg5 : x4.heap.size < x5.heap.size := blk_lt SG.out.blk; have hm0 : x5.cell? ⟨x4.heap.size, 0, none⟩ = some (.int .i64 a0_0) := (blk_cell SG.out.blk 0).trans rfl; have hm1 : x5.cell? ⟨x4.heap.size, 1, none⟩ = some (.int .i64 a0_1) := (blk_cell SG.out.blk 1).trans rfl; have hm2 : x5.cell? ⟨x4.heap.size, 2, none⟩ = some (.slice At' (takeE a1 t0 s0).2.2.2.1.length ct') := (blk_cell SG.out.blk 2).trans rfl; have hm3 : x5.cell? ⟨x4.heap.size, 3, none⟩ = some (.slice As' (takeE a1 t0 s0).2.2.2.2.length cs') := (blk_cell SG.out.blk 3).trans rfl; have h4l : b4 < x3.heap.size := blk_lt K4.out; have h4m : b4 < x5.heap.size := (by have := BO.out.size; omega); have hn4 : b4 ≠ x4.heap.size := (by have := BO.out.size; omega); have K45 := ak ((B5.out.block b4 h4l).trans K4.out); have hu0 := (blk_cell K45.out 0).trans rfl; have hu1 := (blk_cell K45.out 1).trans rfl; have hu2 := (blk_cell K45.out 2).trans rfl; have hu3 := (blk_cell K45.out 3).trans rfl; have hv0 := blk_frozen K45.out 0; have hv1 := blk_frozen K45.out 1; have hv2 := blk_frozen K45.out 2; have hv3 := blk_frozen K45.out 3))
   have h3w : w.heap.size ≤ x3.heap.size := HB.out.size
   have h4w := G4.out
   have h4x : b4 < x3.heap.size := blk_lt K4.out
   have hfar : ∀ j, j ≠ b4 → ((((x5.setCell ⟨b4, 0, none⟩ (.int .i64 a0_0)).setCell ⟨b4, 1, none⟩ (.int .i64 a0_1)).setCell ⟨b4, 2, none⟩ (.slice At' (takeE a1 t0 s0).2.2.2.1.length ct')).setCell ⟨b4, 3, none⟩ (.slice As' (takeE a1 t0 s0).2.2.2.2.length cs')).heap[j]? = x5.heap[j]? := fun j hj => by rw [Below.heap_setCell _ _ _ j (by show j ≠ b4; exact hj), Below.heap_setCell _ _ _ j (by show j ≠ b4; exact hj), Below.heap_setCell _ _ _ j (by show j ≠ b4; exact hj), Below.heap_setCell _ _ _ j (by show j ≠ b4; exact hj)]
   refine bodyPost_ret (results_ct rfl _ _ b4 28 #[.int .i64 a0_0, .int .i64 a0_1, .slice At' (takeE a1 t0 s0).2.2.2.1.length ct', .slice As' (takeE a1 t0 s0).2.2.2.2.length cs'] (0, 0) _ rfl (by refine blk_alloc ?_ _; refine blk_put (cs := #[.int .i64 a0_0, .int .i64 a0_1, .slice At' (takeE a1 t0 s0).2.2.2.1.length ct', .slice none 0 0]) ?_ 3 _ rfl; refine blk_put (cs := #[.int .i64 a0_0, .int .i64 a0_1, .slice none 0 0, .slice none 0 0]) ?_ 2 _ rfl; refine blk_put (cs := #[.int .i64 a0_0, .int .i64 0, .slice none 0 0, .slice none 0 0]) ?_ 1 _ rfl; exact blk_put (cs := #[.int .i64 0, .int .i64 0, .slice none 0 0, .slice none 0 0]) K45.out 0 _ rfl) Try.underlying28 rfl (by kernel_rfl)) rfl ?_
   exact ⟨_, _, rfl, Kd.R_alloc (row_ok (row_move (Kd.R_lower SG.out.ht (by omega)) (fun j hj => hfar j (by have := Kd.R_base SG.out.ht j hj; omega))) (fun j hj => SG.out.ht.1 j hj)) _, Kd.R_alloc (row_ok (row_move (Kd.R_lower SG.out.hs (by omega)) (fun j hj => hfar j (by have := Kd.R_base SG.out.hs j hj; omega))) (fun j hj => SG.out.hs.1 j hj)) _, below_alloc (((((below_then HB.out h3w (B5.out.mono (Nat.le_refl _))).setCell (show w.heap.size ≤ b4 by omega) _).setCell (show w.heap.size ≤ b4 by omega) _).setCell (show w.heap.size ≤ b4 by omega) _).setCell (show w.heap.size ≤ b4 by omega) _) _⟩
  ·rw [if_neg hc, Option.some.injEq] at h
   simp only [Prod.mk.injEq] at h
   obtain ⟨rfl, rfl, rfl, rfl, rfl⟩ := h
   have HTK : Aside0 ((takeE a1 t0 s0).2.2.1 = false) := ⟨by simpa using hc⟩
   clear hc
   go_enter Try.func12, Try.ntmps12
   go_wp2_with (first
     | (refine bE 2 #[.int .i64 a0_0, .int .i64 a0_1, .slice A0_2 l0_2.length c0_2, .slice A0_3 l0_3.length c0_3] 28 ?_; intro b2 hb2 x1 kb hb; have HB := ak hb; have K2 := ak kb; clear hb kb hb2)
     | (refine bE 4 #[.int .i64 0, .int .i64 0, .slice none 0 0, .slice none 0 0] 28 ?_; intro b4 hb4 x2 kb hb; have G4 : Aside0 (w.heap.size ≤ b4) := ⟨by rw [hb4]; exact HB.out.size⟩; have n0_ := ak (below_then HB.out HB.out.size hb); have n1_ := ak (blk_below K2.out hb); clear HB K2; have HB := n0_; have K2 := n1_; have K4 := ak kb; clear hb kb hb4 n0_ n1_; have hz0 : x2.cell? ⟨b2, 0, none⟩ = some (.int .i64 a0_0) := (blk_cell K2.out 0).trans rfl; have hz1 : x2.cell? ⟨b2, 1, none⟩ = some (.int .i64 a0_1) := (blk_cell K2.out 1).trans rfl; have hz2 : x2.cell? ⟨b2, 2, none⟩ = some (.slice A0_2 l0_2.length c0_2) := (blk_cell K2.out 2).trans rfl; have hz3 : x2.cell? ⟨b2, 3, none⟩ = some (.slice A0_3 l0_3.length c0_3) := (blk_cell K2.out 3).trans rfl)
     | (go_at_call 22; (with_reducible refine (impl_GoodSegmented.calls k a0_0 a0_1 A0_2 c0_2 l0_2 A0_3 c0_3 l0_3 true x2 (Kd.C_below HR2.out HB.out) HC2.out (Kd.C_below HR3.out HB.out) HC3.out A0.out).mono ?_); rintro e x3 ⟨rfl, hb⟩; have n0_ := ak (below_then HB.out HB.out.size hb); have n1_ := ak (blk_below K2.out hb); have n2_ := ak (blk_below K4.out hb); clear HB K2 K4 hz0 hz1 hz2 hz3; have HB := n0_; have K2 := n1_; have K4 := n2_; clear hb n0_ n1_ n2_; have hz0 : x3.cell? ⟨b2, 0, none⟩ = some (.int .i64 a0_0) := (blk_cell K2.out 0).trans rfl; have hz1 : x3.cell? ⟨b2, 1, none⟩ = some (.int .i64 a0_1) := (blk_cell K2.out 1).trans rfl; have hz2 : x3.cell? ⟨b2, 2, none⟩ = some (.slice A0_2 l0_2.length c0_2) := (blk_cell K2.out 2).trans rfl; have hz3 : x3.cell? ⟨b2, 3, none⟩ = some (.slice A0_3 l0_3.length c0_3) := (blk_cell K2.out 3).trans rfl)
     | (go_at_call 45; (with_reducible refine (impl_Segmented_own.calls a0_0 a0_1 A0_2 c0_2 l0_2 A0_3 c0_3 l0_3 a0_0 a0_1 t0 s0 x3 (Kd.C_below HR2.out HB.out) HC2.out (Kd.C_below HR3.out HB.out) HC3.out A1.out).mono ?_); rintro e x4 ⟨vt, vs, rfl, ho1, ho2, hb⟩; have HT := ak ho1; have HS := ak ho2; have BO := ak hb; clear ho1 ho2 hb hz0 hz1 hz2 hz3; obtain ⟨At, ct, et⟩ := Kd.R_slice HT.out; subst et; obtain ⟨As, cs, es⟩ := Kd.R_slice HS.out; subst es)
     | (go_at_call 46; refine (take.calls x3.heap.size x4.heap.size a0_0 a0_1 (.slice At t0.length ct) (.slice As s0.length cs) t0 s0 a1 x3 _ ⟨blk_new x4 _, BO.out.size, Kd.R_alloc HT.out _, Kd.R_alloc HS.out _⟩ (BO.out.alloc BO.out.size _) (by have := BO.out.size; simp only [World.size_alloc]; omega)).mono ?_; rintro e x5 ⟨rfl, ⟨vt', vs', hseg⟩, hb, hk⟩; rw [HTK.out]; have SG := ak hseg; have B5 := ak hb; clear hseg hb hk; obtain ⟨At', ct', et⟩ := Kd.R_slice SG.out.ht; subst et; obtain ⟨As', cs', es⟩ := Kd.R_slice SG.out.hs; subst es; have hg5 : x4.heap.size < x5.heap.size := blk_lt SG.out.blk; have hm0 : x5.cell? ⟨x4.heap.size, 0, none⟩ = some (.int .i64 a0_0) := (blk_cell SG.out.blk 0).trans rfl; have hm1 : x5.cell? ⟨x4.heap.size, 1, none⟩ = some (.int .i64 a0_1) := (blk_cell SG.out.blk 1).trans rfl; have hm2 : x5.cell? ⟨x4.heap.size, 2, none⟩ = some (.slice At' (takeE a1 t0 s0).2.2.2.1.length ct') := (blk_cell SG.out.blk 2).trans rfl; have hm3 : x5.cell? ⟨x4.heap.size, 3, none⟩ = some (.slice As' (takeE a1 t0 s0).2.2.2.2.length cs') := (blk_cell SG.out.blk 3).trans rfl; have h4l : b4 < x3.heap.size := blk_lt K4.out; have h4m : b4 < x5.heap.size := (by have := BO.out.size; omega); have hn4 : b4 ≠ x4.heap.size := (by have := BO.out.size; omega); have K45 := ak ((B5.out.block b4 h4l).trans K4.out); have hu0 := (blk_cell K45.out 0).trans rfl; have hu1 := (blk_cell K45.out 1).trans rfl; have hu2 := (blk_cell K45.out 2).trans rfl; have hu3 := (blk_cell K45.out 3).trans rfl; have hv0 := blk_frozen K45.out 0; have hv1 := blk_frozen K45.out 1; have hv2 := blk_frozen K45.out 2; have hv3 := blk_frozen K45.out 3))
   have h3w : w.heap.size ≤ x3.heap.size := HB.out.size
   have h4w := G4.out
   refine bodyPost_ret (results_ct rfl _ _ b4 28 #[.int .i64 0, .int .i64 0, .slice none 0 0, .slice none 0 0] (0, 0) _ rfl (by refine blk_alloc ?_ _; refine blk_put (cs := #[.int .i64 0, .int .i64 0, .slice none 0 0, .slice none 0 0]) ?_ 3 _ rfl; refine blk_put (cs := #[.int .i64 0, .int .i64 0, .slice none 0 0, .slice none 0 0]) ?_ 2 _ rfl; refine blk_put (cs := #[.int .i64 0, .int .i64 0, .slice none 0 0, .slice none 0 0]) ?_ 1 _ rfl; exact blk_put (cs := #[.int .i64 0, .int .i64 0, .slice none 0 0, .slice none 0 0]) K45.out 0 _ rfl) Try.underlying28 rfl (by kernel_rfl)) rfl ?_
   exact ⟨_, _, rfl, Kd.R_nil _ _ _ _ _, Kd.R_nil _ _ _ _ _, below_alloc (((((below_then HB.out h3w (B5.out.mono (Nat.le_refl _))).setCell (show w.heap.size ≤ b4 by omega) _).setCell (show w.heap.size ≤ b4 by omega) _).setCell (show w.heap.size ≤ b4 by omega) _).setCell (show w.heap.size ≤ b4 by omega) _) _⟩


/-! ### laws_sameEntries: function 23 -/
def laws_sameEntries.l0 : Nat → List (S45) → List (S45) → Int → Int → Option (Bool)
 | 0, _, _, _, _ => none
 | k + 1, x0, x1, x12, x13 => if x13 < x12 then (if 0 ≤ x13 then (if x13 < (x0.length : Int) then (if x13 < (x1.length : Int) then (if (!((((rd_T45 x0 x13).f0).toList) == (((rd_T45 x1 x13).f0).toList)) || (!((((rd_T45 x0 x13).f1).toList) == (((rd_T45 x1 x13).f1).toList)))) = true then (some false) else (laws_sameEntries.l0 k x0 x1 x12 (wrap64 (x13 + 1)))) else (none)) else (none)) else (none)) else (some true)
def laws_sameEntries.f (k : Nat) (l0 : List (S45)) (l1 : List (S45)) : Option (Bool) := if (l0.length : Int) = (l1.length : Int) then (laws_sameEntries.l0 k l0 l1 (l0.length : Int) 0) else (some false)
theorem laws_sameEntries.mono_l : ∀ k, (∀ y0 y1 y2 y3, LeO (laws_sameEntries.l0 k y0 y1 y2 y3) (laws_sameEntries.l0 (k + 1) y0 y1 y2 y3))
 | 0 => fun _ _ _ _ r h => by simp [laws_sameEntries.l0] at h
 | k + 1 => by
  have ih0 := laws_sameEntries.mono_l k
  ·intro y0 y1 y2 y3
   unfold laws_sameEntries.l0
   repeat' first
   | (with_reducible exact ih0 _ _ _ _)
   | (with_reducible exact LeO.refl _)
   | (with_reducible exact LeO.none _)
   | (with_reducible refine LeO.ite ?_ ?_)
   | (with_reducible refine LeO.bind ?_ (fun _ => ?_))
   | exact ih0 _ _ _ _
   | exact LeO.none _
   | refine LeO.ite ?_ ?_
   | refine LeO.bind ?_ (fun _ => ?_)
theorem laws_sameEntries.mono : ∀ a0 a1 k, LeO (laws_sameEntries.f k a0 a1) (laws_sameEntries.f (k + 1) a0 a1) := by
 intro a0 a1 k
 have ih0 := laws_sameEntries.mono_l k
 unfold laws_sameEntries.f
 repeat' first
   | (with_reducible exact ih0 _ _ _ _)
   | (with_reducible exact LeO.refl _)
   | (with_reducible exact LeO.none _)
   | (with_reducible refine LeO.ite ?_ ?_)
   | (with_reducible refine LeO.bind ?_ (fun _ => ?_))
   | exact ih0 _ _ _ _
   | exact LeO.none _
   | refine LeO.ite ?_ ?_
   | refine LeO.bind ?_ (fun _ => ?_)
set_option maxHeartbeats 8000000 in
set_option maxRecDepth 100000 in
theorem laws_sameEntries.calls (k : Nat) (A0 : Option Addr) (c0 : Nat) (l0 : List (S45)) (A1 : Option Addr) (c1 : Nat) (l1 : List (S45)) (r : Bool) (w : World) (hr0 : Kd.C k45 w A0 l0.length l0) (hc0 : l0.length ≤ c0) (hr1 : Kd.C k45 w A1 l1.length l1) (hc1 : l1.length ≤ c1) (h : laws_sameEntries.f k l0 l1 = some r) :
  Calls Try.prog 23 #[.slice A0 l0.length c0, .slice A1 l1.length c1] w fun e w' => e = .returned (.bool r) ∧ Drawn0 w w' := by
 have hu45 := Try.underlying45
 have HR0 := ak hr0
 have HC0 := ak hc0
 clear hr0 hc0
 have HR1 := ak hr1
 have HC1 := ak hc1
 clear hr1 hc1
 have H : (if (l0.length : Int) = (l1.length : Int) then (laws_sameEntries.l0 k l0 l1 (l0.length : Int) 0) else (some false)) = some r := h
 clear h
 by_cases c3 : (l0.length : Int) = (l1.length : Int)
 ·rw [if_pos c3] at H
  have c3b0 : ((l0.length : Int) == (l1.length : Int)) = true := beq_iff_eq.mpr c3
  have c3b1 : ((l0.length : Int) != (l1.length : Int)) = false := bne_eq_false_iff_eq.mpr c3
  have c3b2 : (l0.length == l1.length) = true := by first | simpa using c3 | (simp at c3 ⊢; omega)
  clear c3
  have H' := ak H
  clear H
  go_enter Try.func23, Try.ntmps23
  go_wp2
  repeat (go_quiet (fail); try go_wp2)
  go_loopg [13] k (fun kq v13 w' => ∃ (x13_1 : Int), v13 = .int .i64 x13_1 ∧ Aside0 (laws_sameEntries.l0 kq l0 l1 (l0.length : Int) x13_1 = some r) ∧ Aside0 (kq ≤ k) ∧ Drawn0 w w')
  case atStart => exact ⟨(0), (by first | rfl | (simp; done) | (simp [*]; done)), H', ⟨Nat.le_refl _⟩, by repeat (first | exact Drawn0.refl _ | apply Drawn0.step)⟩
  case round =>
   clear H'
   try clear c1
   try clear c2
   try clear p2
   try clear c3
   try clear c3b0
   try clear c3b1
   try clear c3b2
   obtain ⟨x13_1, rfl, HA, HK1, ⟨m1, rfl⟩⟩ := hrel
   cases gk with
   | zero => exact absurd HA.out (by simp [laws_sameEntries.l0])
   | succ k1 =>
    have H := HA.out
    clear HA
    simp only [laws_sameEntries.l0] at H
    by_cases c4 : x13_1 < (l0.length : Int)
    ·rw [if_pos c4] at H
     have c4b0 : decide (x13_1 < (l0.length : Int)) = true := decide_eq_true c4
     clear c4
     by_cases c5 : 0 ≤ x13_1
     ·rw [if_pos c5] at H
      have c5b0 : decide (0 ≤ x13_1) = true := decide_eq_true c5
      clear c5
      by_cases c6 : x13_1 < (l0.length : Int)
      ·rw [if_pos c6] at H
       have c6b0 : decide (x13_1 < (l0.length : Int)) = true := decide_eq_true c6
       clear c6
       by_cases c7 : x13_1 < (l1.length : Int)
       ·rw [if_pos c7] at H
        have c7b0 : decide (x13_1 < (l1.length : Int)) = true := decide_eq_true c7
        clear c7
        by_cases c8 : (!((((rd_T45 l0 x13_1).f0).toList) == (((rd_T45 l1 x13_1).f0).toList)) || (!((((rd_T45 l0 x13_1).f1).toList) == (((rd_T45 l1 x13_1).f1).toList)))) = true
        ·rw [if_pos c8] at H
         have c8b0 : (!((((rd_T45 l0 x13_1).f0).toList) == (((rd_T45 l1 x13_1).f0).toList)) || (!((((rd_T45 l0 x13_1).f1).toList) == (((rd_T45 l1 x13_1).f1).toList)))) = true := c8
         clear c8
         obtain rfl := Option.some.inj H
         have p116 : 0 ≤ (x13_1 : Int) := od
         have q116 : x13_1 < (l0.length : Int) := od
         obtain ⟨ad116, e116, hx116_0, hx116_1⟩ := at_T45 HR0.out x13_1 p116 q116
         cases e116
         replace p116 := eq_true p116
         replace q116 := eq_true q116
         have p117 : 0 ≤ (x13_1 : Int) := od
         have q117 : x13_1 < (l1.length : Int) := od
         obtain ⟨ad117, e117, hx117_0, hx117_1⟩ := at_T45 HR1.out x13_1 p117 q117
         cases e117
         replace p117 := eq_true p117
         replace q117 := eq_true q117
         go_wp2
         repeat (go_quiet (fail); try go_wp2)
         go_ret
         exact ⟨by first | rfl | (simp; done) | (simp [*]; done), by repeat (first | exact Drawn0.refl _ | apply Drawn0.step)⟩
        ·rw [if_neg c8] at H
         have c8b0 : (!((((rd_T45 l0 x13_1).f0).toList) == (((rd_T45 l1 x13_1).f0).toList)) || (!((((rd_T45 l0 x13_1).f1).toList) == (((rd_T45 l1 x13_1).f1).toList)))) = false := by simpa using c8
         clear c8
         have H' := ak H
         clear H
         have p116 : 0 ≤ (x13_1 : Int) := od
         have q116 : x13_1 < (l0.length : Int) := od
         obtain ⟨ad116, e116, hx116_0, hx116_1⟩ := at_T45 HR0.out x13_1 p116 q116
         cases e116
         replace p116 := eq_true p116
         replace q116 := eq_true q116
         have p117 : 0 ≤ (x13_1 : Int) := od
         have q117 : x13_1 < (l1.length : Int) := od
         obtain ⟨ad117, e117, hx117_0, hx117_1⟩ := at_T45 HR1.out x13_1 p117 q117
         cases e117
         replace p117 := eq_true p117
         replace q117 := eq_true q117
         go_wp2
         repeat (go_quiet (fail); try go_wp2)
         go_roundg k1
         case measure => have := HK1.out; omega
         case rel => exact ⟨(wrap64 (x13_1 + 1)), (by first | rfl | (simp; done) | (simp [*]; done)), H', ⟨by have := HK1.out; omega⟩, by repeat (first | exact Drawn0.refl _ | apply Drawn0.step)⟩
       ·rw [if_neg c7] at H
        exact absurd H (by simp)
      ·rw [if_neg c6] at H
       exact absurd H (by simp)
     ·rw [if_neg c5] at H
      exact absurd H (by simp)
    ·rw [if_neg c4] at H
     have c4b0 : decide (x13_1 < (l0.length : Int)) = false := decide_eq_false c4
     clear c4
     obtain rfl := Option.some.inj H
     go_wp2
     repeat (go_quiet (fail); try go_wp2)
     go_ret
     exact ⟨by first | rfl | (simp; done) | (simp [*]; done), by repeat (first | exact Drawn0.refl _ | apply Drawn0.step)⟩
 ·rw [if_neg c3] at H
  have c3b0 : ((l0.length : Int) == (l1.length : Int)) = false := beq_eq_false_iff_ne.mpr c3
  have c3b1 : ((l0.length : Int) != (l1.length : Int)) = true := bne_iff_ne.mpr c3
  have c3b2 : (l0.length == l1.length) = false := by first | simpa using c3 | (simp at c3 ⊢; omega)
  obtain rfl := Option.some.inj H
  go_enter Try.func23, Try.ntmps23
  go_wp2
  repeat (go_quiet (fail); try go_wp2)
  go_ret
  exact ⟨by first | rfl | (simp; done) | (simp [*]; done), by repeat (first | exact Drawn0.refl _ | apply Drawn0.step)⟩

end Go.Proofs.Ytfopmaiednikhaa.PFnParts
