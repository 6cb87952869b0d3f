-- written by a program of this session (wip/tool)
import Derived.Test.YtfopmaiednikhaaPFnPartsx0
import Derived.Test.YtfopmaiednikhaaPFnPartsx2
import Derived.Test.YtfopmaiednikhaaPFnPartsx3
import Derived.Test.YtfopmaiednikhaaVOwn0
import Derived.Test.YtfopmaiednikhaaVOwnOpen
import Derived.WalkKit
import Derived.BigCall
import Derived.Lib.SliceRun
import Derived.Deep.RegionLaw
import Derived.Maps.OwnSet
import Derived.Maps.OwnOps
import Derived.Maps.Views
import Derived.Test.YtfopmaiednikhaaVWZeros
import Derived.Test.YtfopmaiednikhaaVWArr
import Derived.Test.YtfopmaiednikhaaVOwnShort
import Derived.Test.YtfopmaiednikhaaOwnSq
namespace Go.Proofs.Ytfopmaiednikhaa.PFnParts
open Go.RowKit Go.Proofs.YtfopmaiednikhaaW.PrintWords Go.Proofs.YtfopmaiednikhaaW.PrintLast Go.Proofs.YtfopmaiednikhaaW.PrintMore Go.Shelf Go.Proofs.YtfopmaiednikhaaOwn
attribute [local go_sem] max2_int min2_int max_two min_two max_three min_three max_four min_four   -- for this text's walks alone
set_option linter.unusedVariables false
set_option linter.unusedSimpArgs false

/-! ### laws_sameCaches: function 19 -/
def laws_sameCaches.f (k : Nat) (a0_0 : Int) (a0_1 : Int) (l0_2 : List (S45)) (l0_3 : List (S45)) (a1_0 : Int) (a1_1 : Int) (l1_2 : List (S45)) (l1_3 : List (S45)) : Option (Bool) := if a0_0 = a1_0 then (if a0_1 = a1_1 then ((laws_sameEntries.f k l0_2 l1_2).bind fun t120 => (if t120 = true then ((laws_sameEntries.f k l0_3 l1_3).bind fun t121 => (some t121)) else (some false))) else (some false)) else (some false)
theorem laws_sameCaches.mono : ∀ a0 a1 a2 a3 a4 a5 a6 a7 k, LeO (laws_sameCaches.f k a0 a1 a2 a3 a4 a5 a6 a7) (laws_sameCaches.f (k + 1) a0 a1 a2 a3 a4 a5 a6 a7) := by
 intro a0 a1 a2 a3 a4 a5 a6 a7 k
 unfold laws_sameCaches.f
 repeat' first
   | (with_reducible exact laws_sameEntries.mono _ _ _)
   | (with_reducible exact LeO.refl _)
   | (with_reducible exact LeO.none _)
   | (with_reducible refine LeO.ite ?_ ?_)
   | (with_reducible refine LeO.bind ?_ (fun _ => ?_))
   | exact laws_sameEntries.mono _ _ _
   | exact LeO.none _
   | refine LeO.ite ?_ ?_
   | refine LeO.bind ?_ (fun _ => ?_)
set_option maxHeartbeats 8000000 in
set_option maxRecDepth 100000 in
theorem laws_sameCaches.calls (k : Nat) (a0_0 : Int) (a0_1 : Int) (A0_2 : Option Addr) (c0_2 : Nat) (l0_2 : List (S45)) (A0_3 : Option Addr) (c0_3 : Nat) (l0_3 : List (S45)) (a1_0 : Int) (a1_1 : Int) (A1_2 : Option Addr) (c1_2 : Nat) (l1_2 : List (S45)) (A1_3 : Option Addr) (c1_3 : Nat) (l1_3 : List (S45)) (r : Bool) (w : World) (hr0_2 : Kd.C k45 w A0_2 l0_2.length l0_2) (hc0_2 : l0_2.length ≤ c0_2) (hr0_3 : Kd.C k45 w A0_3 l0_3.length l0_3) (hc0_3 : l0_3.length ≤ c0_3) (hr1_2 : Kd.C k45 w A1_2 l1_2.length l1_2) (hc1_2 : l1_2.length ≤ c1_2) (hr1_3 : Kd.C k45 w A1_3 l1_3.length l1_3) (hc1_3 : l1_3.length ≤ c1_3) (h : laws_sameCaches.f k a0_0 a0_1 l0_2 l0_3 a1_0 a1_1 l1_2 l1_3 = some r) :
  Calls Try.prog 19 #[.agg #[.int .i64 a0_0, .int .i64 a0_1, .slice A0_2 l0_2.length c0_2, .slice A0_3 l0_3.length c0_3], .agg #[.int .i64 a1_0, .int .i64 a1_1, .slice A1_2 l1_2.length c1_2, .slice A1_3 l1_3.length c1_3]] w fun e w' => e = .returned (.bool r) ∧ Below w.heap.size w w' := by
 have hu28 := Try.underlying28
 have HR0_2 := ak hr0_2
 have HC0_2 := ak hc0_2
 clear hr0_2 hc0_2
 have HR0_3 := ak hr0_3
 have HC0_3 := ak hc0_3
 clear hr0_3 hc0_3
 have HR1_2 := ak hr1_2
 have HC1_2 := ak hc1_2
 clear hr1_2 hc1_2
 have HR1_3 := ak hr1_3
 have HC1_3 := ak hc1_3
 clear hr1_3 hc1_3
 have HB := ak (Below.refl w.heap.size w)
 have H : (if a0_0 = a1_0 then (if a0_1 = a1_1 then ((laws_sameEntries.f k l0_2 l1_2).bind fun t120 => (if t120 = true then ((laws_sameEntries.f k l0_3 l1_3).bind fun t121 => (some t121)) else (some false))) else (some false)) else (some false)) = some r := h
 clear h
 by_cases c3 : a0_0 = a1_0
 ·rw [if_pos c3] at H
  have c3b0 : (a0_0 == a1_0) = true := beq_iff_eq.mpr c3
  have c3b1 : (a0_0 != a1_0) = false := bne_eq_false_iff_eq.mpr c3
  clear c3
  by_cases c4 : a0_1 = a1_1
  ·rw [if_pos c4] at H
   have c4b0 : (a0_1 == a1_1) = true := beq_iff_eq.mpr c4
   have c4b1 : (a0_1 != a1_1) = false := bne_eq_false_iff_eq.mpr c4
   clear c4
   replace H := Option.bind_eq_some_iff.mp H
   obtain ⟨t120, A50, H⟩ := H
   try dsimp only at H
   have A5 := ak A50
   clear A50
   by_cases c6 : t120 = true
   ·subst c6
    have H1 : ((laws_sameEntries.f k l0_3 l1_3).bind fun t121 => (some t121)) = some r := by rw [if_pos rfl] at H; exact H
    clear H
    have H := H1
    clear H1
    replace H := Option.bind_eq_some_iff.mp H
    obtain ⟨t121, A70, H⟩ := H
    try dsimp only at H
    have A7 := ak A70
    clear A70
    obtain rfl := Option.some.inj H
    go_enter Try.func19, Try.ntmps19
    go_wp2_with (first | (refine bE 2 #[.int .i64 a0_0, .int .i64 a0_1, .slice A0_2 l0_2.length c0_2, .slice A0_3 l0_3.length c0_3] 28 ?_; intro gb118 hg w8 hbox hb; have BK118 := ak hbox; have GW118 := gs hg (bl HB.out); have GE118 := gs hg (bl HB.out); replace HB := ak (below_step (bl HB.out) hb); clear hb hbox hg) | (refine bE 3 #[.int .i64 a1_0, .int .i64 a1_1, .slice A1_2 l1_2.length c1_2, .slice A1_3 l1_3.length c1_3] 28 ?_; intro gb119 hg w9 hbox hb; have BK119 := ak hbox; have GW119 := gs hg (bl1 HB.out GE118.out); have GE119 := gs hg (bl1 HB.out GE118.out); replace HB := ak (below_step (bl1 HB.out GE118.out) hb); have NB118_119 := nl hg BK118.out; have NB119_118 := ng hg BK118.out; replace BK118 := ak (blk_below (bk BK118.out) hb); clear hb hbox hg; have hnb10 := NB118_119.out; have hnc10 := NB119_118.out; obtain ⟨hcz11_0, hcz11_1, hcz11_2, hcz11_3, hfz11_0, hfz11_1, hfz11_2, hfz11_3⟩ := b4 BK118.out; obtain ⟨hcz12_0, hcz12_1, hcz12_2, hcz12_3, hfz12_0, hfz12_1, hfz12_2, hfz12_3⟩ := b4 BK119.out) | (go_at_call 23; (with_reducible refine (laws_sameEntries.calls k _ _ l0_2 _ _ l1_2 true _ ?side1 ?side2 ?side3 ?side4 A5.out).mono ?_); (case side1 => exact kc (Kd.C_below HR0_2.out HB.out)); (case side2 => exact HC0_2.out); (case side3 => exact kc (Kd.C_below HR1_2.out HB.out)); (case side4 => exact HC1_2.out); rintro e w' ⟨rfl, ⟨nd, rfl⟩⟩) | (go_at_call 23; (with_reducible refine (laws_sameEntries.calls k _ _ l0_3 _ _ l1_3 t121 _ ?side1 ?side2 ?side3 ?side4 A7.out).mono ?_); (case side1 => exact kc (Kd.C_below HR0_3.out (bl2 HB.out GE118.out GE119.out))); (case side2 => exact HC0_3.out); (case side3 => exact kc (Kd.C_below HR1_3.out (bl2 HB.out GE118.out GE119.out))); (case side4 => exact HC1_3.out); rintro e w' ⟨rfl, ⟨nd, rfl⟩⟩))
    go_ret
    exact ⟨by first | rfl | (simp [errW_none, errW_some] <;> rfl) | (simp [*, errW_none, errW_some] <;> rfl), bl2 HB.out GE118.out GE119.out⟩
   ·replace c6 := Bool.eq_false_iff.mpr c6
    subst c6
    have H1 : (some false) = some r := by rw [if_neg (show ¬ (false = true) by decide)] at H; exact H
    clear H
    have H := H1
    clear H1
    obtain rfl := Option.some.inj H
    go_enter Try.func19, Try.ntmps19
    go_wp2_with (first | (refine bE 2 #[.int .i64 a0_0, .int .i64 a0_1, .slice A0_2 l0_2.length c0_2, .slice A0_3 l0_3.length c0_3] 28 ?_; intro gb118 hg w13 hbox hb; have BK118 := ak hbox; have GW118 := gs hg (bl HB.out); have GE118 := gs hg (bl HB.out); replace HB := ak (below_step (bl HB.out) hb); clear hb hbox hg) | (refine bE 3 #[.int .i64 a1_0, .int .i64 a1_1, .slice A1_2 l1_2.length c1_2, .slice A1_3 l1_3.length c1_3] 28 ?_; intro gb119 hg w14 hbox hb; have BK119 := ak hbox; have GW119 := gs hg (bl1 HB.out GE118.out); have GE119 := gs hg (bl1 HB.out GE118.out); replace HB := ak (below_step (bl1 HB.out GE118.out) hb); have NB118_119 := nl hg BK118.out; have NB119_118 := ng hg BK118.out; replace BK118 := ak (blk_below (bk BK118.out) hb); clear hb hbox hg; have hnb15 := NB118_119.out; have hnc15 := NB119_118.out; obtain ⟨hcz16_0, hcz16_1, hcz16_2, hcz16_3, hfz16_0, hfz16_1, hfz16_2, hfz16_3⟩ := b4 BK118.out; obtain ⟨hcz17_0, hcz17_1, hcz17_2, hcz17_3, hfz17_0, hfz17_1, hfz17_2, hfz17_3⟩ := b4 BK119.out) | (go_at_call 23; (with_reducible refine (laws_sameEntries.calls k _ _ l0_2 _ _ l1_2 false _ ?side1 ?side2 ?side3 ?side4 A5.out).mono ?_); (case side1 => exact kc (Kd.C_below HR0_2.out HB.out)); (case side2 => exact HC0_2.out); (case side3 => exact kc (Kd.C_below HR1_2.out HB.out)); (case side4 => exact HC1_2.out); rintro e w' ⟨rfl, ⟨nd, rfl⟩⟩))
    go_ret
    exact ⟨by first | rfl | (simp [errW_none, errW_some] <;> rfl) | (simp [*, errW_none, errW_some] <;> rfl), bl2 HB.out GE118.out GE119.out⟩
  ·rw [if_neg c4] at H
   have c4b0 : (a0_1 == a1_1) = false := beq_eq_false_iff_ne.mpr c4
   have c4b1 : (a0_1 != a1_1) = true := bne_iff_ne.mpr c4
   obtain rfl := Option.some.inj H
   go_enter Try.func19, Try.ntmps19
   go_wp2_with (first | (refine bE 2 #[.int .i64 a0_0, .int .i64 a0_1, .slice A0_2 l0_2.length c0_2, .slice A0_3 l0_3.length c0_3] 28 ?_; intro gb118 hg w18 hbox hb; have BK118 := ak hbox; have GW118 := gs hg (bl HB.out); have GE118 := gs hg (bl HB.out); replace HB := ak (below_step (bl HB.out) hb); clear hb hbox hg) | (refine bE 3 #[.int .i64 a1_0, .int .i64 a1_1, .slice A1_2 l1_2.length c1_2, .slice A1_3 l1_3.length c1_3] 28 ?_; intro gb119 hg w19 hbox hb; have BK119 := ak hbox; have GW119 := gs hg (bl1 HB.out GE118.out); have GE119 := gs hg (bl1 HB.out GE118.out); replace HB := ak (below_step (bl1 HB.out GE118.out) hb); have NB118_119 := nl hg BK118.out; have NB119_118 := ng hg BK118.out; replace BK118 := ak (blk_below (bk BK118.out) hb); clear hb hbox hg; have hnb20 := NB118_119.out; have hnc20 := NB119_118.out; obtain ⟨hcz21_0, hcz21_1, hcz21_2, hcz21_3, hfz21_0, hfz21_1, hfz21_2, hfz21_3⟩ := b4 BK118.out; obtain ⟨hcz22_0, hcz22_1, hcz22_2, hcz22_3, hfz22_0, hfz22_1, hfz22_2, hfz22_3⟩ := b4 BK119.out))
   go_ret
   exact ⟨by first | rfl | (simp [errW_none, errW_some] <;> rfl) | (simp [*, errW_none, errW_some] <;> rfl), bl2 HB.out GE118.out GE119.out⟩
 ·rw [if_neg c3] at H
  have c3b0 : (a0_0 == a1_0) = false := beq_eq_false_iff_ne.mpr c3
  have c3b1 : (a0_0 != a1_0) = true := bne_iff_ne.mpr c3
  obtain rfl := Option.some.inj H
  go_enter Try.func19, Try.ntmps19
  go_wp2_with (first | (refine bE 2 #[.int .i64 a0_0, .int .i64 a0_1, .slice A0_2 l0_2.length c0_2, .slice A0_3 l0_3.length c0_3] 28 ?_; intro gb118 hg w23 hbox hb; have BK118 := ak hbox; have GW118 := gs hg (bl HB.out); have GE118 := gs hg (bl HB.out); replace HB := ak (below_step (bl HB.out) hb); clear hb hbox hg) | (refine bE 3 #[.int .i64 a1_0, .int .i64 a1_1, .slice A1_2 l1_2.length c1_2, .slice A1_3 l1_3.length c1_3] 28 ?_; intro gb119 hg w24 hbox hb; have BK119 := ak hbox; have GW119 := gs hg (bl1 HB.out GE118.out); have GE119 := gs hg (bl1 HB.out GE118.out); replace HB := ak (below_step (bl1 HB.out GE118.out) hb); have NB118_119 := nl hg BK118.out; have NB119_118 := ng hg BK118.out; replace BK118 := ak (blk_below (bk BK118.out) hb); clear hb hbox hg; have hnb25 := NB118_119.out; have hnc25 := NB119_118.out; obtain ⟨hcz26_0, hcz26_1, hcz26_2, hcz26_3, hfz26_0, hfz26_1, hfz26_2, hfz26_3⟩ := b4 BK118.out; obtain ⟨hcz27_0, hcz27_1, hcz27_2, hcz27_3, hfz27_0, hfz27_1, hfz27_2, hfz27_3⟩ := b4 BK119.out))
  go_ret
  exact ⟨by first | rfl | (simp [errW_none, errW_some] <;> rfl) | (simp [*, errW_none, errW_some] <;> rfl), bl2 HB.out GE118.out GE119.out⟩

/-! ### ahead: function 77 -/
def impl_ahead.f (l0 : List S45) (x0 x1 : ByteArray) : Option (List S45) := if 1 + l0.length < 4398046511104 then some (⟨x0, x1⟩ :: l0) else none
set_option maxHeartbeats 2000000 in
set_option maxRecDepth 100000 in
theorem impl_ahead.calls (A0 : Option Addr) (c0 : Nat) (l0 : List S45) (x0 x1 : ByteArray) (r : List S45) (w : World) (hr0 : Kd.C k45 w A0 l0.length l0) (hc0 : l0.length ≤ c0) (h : impl_ahead.f l0 x0 x1 = some r) :
  Calls Try.prog 77 #[.slice A0 l0.length c0, .agg #[.string x0, .string x1]] w fun e w' => ∃ v0_ : Value, e = .returned v0_ ∧ Kd.R k45 45 w' w.heap.size (fun _ => True) v0_ r ∧ Below w.heap.size w w' := by
 unfold impl_ahead.f at h
 by_cases c : 1 + l0.length < 4398046511104
 ·rw [if_pos c, Option.some.injEq] at h
  subst h
  have LM := ak c
  have HR := ak hr0
  have HC := ak hc0
  clear hr0 hc0 c
  go_enter Try.func77, Try.ntmps77
  go_wp2_with (first
   | ((with_reducible refine gate_dst (N := 6) rfl ?_); refine Kd.R_lit k45 _ 45 ?hg (N := 6) ?hd (xs := [(⟨x0, x1⟩ : S45)]) (inner := [.string x0, .string x1]) (ok := fun _ => True) (okp := fun _ => True) ?hr ?hp (fun _ hk => hk) trivial (Below.refl _ _) (Nat.le_refl _) (by simp) ?_; (case hd => rfl); (case hg => rfl); (case hr => first | (go_simp; done) | (go_simp; rfl)); (case hp => exact (Reps.none _ _).snoc (k45_mkM _ _ _ ⟨x0, x1⟩) rfl); intro v1 w1 ho1 hb hg_ hnew_; clear hg_ hnew_; have HO := ak ho1; have HB := ak hb; clear ho1 hb; obtain ⟨A1, c1, ev, hl1, hC1⟩ := Kd.R_reads HO.out; subst ev; have HC1 := ak hC1; have HL1 := ak hl1; clear hl1 hC1)
   | (go_at_call 60; have HB1 := ak (below_then (below_alloc (Below.refl _ _) _) (by simp) HB.out); refine (slices_ConcatE.calls (some ⟨w1.heap.size, 0, none⟩) 2 [[(⟨x0, x1⟩ : S45)], l0] (⟨x0, x1⟩ :: l0) _ ?hC ?hf).mono ?_; (case hC => exact C_two HL1.out (Kd.C_alloc HC1.out _) HC.out (Kd.C_alloc (Kd.C_below HR.out HB1.out) _) (by rw [add_plain]; exact (blk_cell (blk_new w1 _) 0).trans rfl) (by rw [add_plain]; exact (blk_cell (blk_new w1 _) 1).trans rfl)); (case hf => have := LM.out; unfold slices_ConcatE.f; rw [if_pos (by simp; omega)]; simp); rintro e w' ⟨v2, rfl, ho, hb⟩; have HO2 := ak ho; have HB2 := ak hb; clear ho hb))
  go_ret
  have hsz : w.heap.size ≤ (w1.alloc (Obj.cells #[Value.slice A1 1 c1, Value.slice A0 l0.length c0] 26)).heap.size := by
   have := HB1.out.size
   simp only [World.size_alloc]; omega
  exact ⟨_, rfl, Kd.R_lower HO2.out hsz, below_then (below_alloc HB1.out _) hsz HB2.out⟩
 ·rw [if_neg c] at h; exact absurd h (by simp)

/-! ### settle: function 78 -/
def settleE.l0 : Nat → Int → List S45 → List S45 → Option (List S45 × List S45)
 | 0, _, _, _ => none
 | k + 1, o, t, s => (impl_fits.f k s o).bind fun b => (if b = true then some (t, s) else (if 0 < s.length then ((impl_ahead.f t (rd_T45 s ((s.length : Int) - 1)).f0 (rd_T45 s ((s.length : Int) - 1)).f1).bind fun t' => settleE.l0 k o t' (s.take (s.length - 1))) else none))
def settleE.l1 : Nat → Int → List S45 → List S45 → Option (List S45 × List S45)
 | 0, _, _, _ => none
 | k + 1, n, t, th => (impl_fits.f k t n).bind fun b => (if b = true then some (t, th) else (if 0 < t.length then (if th.length + 1 < 4398046511104 then settleE.l1 k n (t.take (t.length - 1)) (th ++ [rd_T45 t ((t.length : Int) - 1)]) else none) else none))
def settleE.f (k : Nat) (n o : Int) (t s : List S45) : Option (List S45 × List S45 × List S45) := (settleE.l0 k o t s).bind fun ts => (settleE.l1 k n ts.1 []).bind fun tt => some (tt.1, ts.2, tt.2)
theorem settleE.mono_l0 : ∀ k o t s, LeO (settleE.l0 k o t s) (settleE.l0 (k + 1) o t s)
 | 0 => fun _ _ _ r h => by simp [settleE.l0] at h
 | k + 1 => by
  have ih := settleE.mono_l0 k
  intro o t s
  unfold settleE.l0
  repeat' first
   | (with_reducible exact ih _ _ _)
   | (with_reducible exact impl_fits.mono _ _ _)
   | (with_reducible exact LeO.refl _)
   | (with_reducible exact LeO.none _)
   | (with_reducible refine LeO.ite ?_ ?_)
   | (with_reducible refine LeO.bind ?_ (fun _ => ?_))
theorem settleE.mono_l1 : ∀ k n t th, LeO (settleE.l1 k n t th) (settleE.l1 (k + 1) n t th)
 | 0 => fun _ _ _ r h => by simp [settleE.l1] at h
 | k + 1 => by
  have ih := settleE.mono_l1 k
  intro n t th
  unfold settleE.l1
  repeat' first
   | (with_reducible exact ih _ _ _)
   | (with_reducible exact impl_fits.mono _ _ _)
   | (with_reducible exact LeO.refl _)
   | (with_reducible exact LeO.none _)
   | (with_reducible refine LeO.ite ?_ ?_)
   | (with_reducible refine LeO.bind ?_ (fun _ => ?_))
theorem settleE.mono : ∀ n o t s k, LeO (settleE.f k n o t s) (settleE.f (k + 1) n o t s) := by
 intro n o t s k
 unfold settleE.f
 repeat' first
   | (with_reducible exact settleE.mono_l0 _ _ _ _)
   | (with_reducible exact settleE.mono_l1 _ _ _ _)
   | (with_reducible exact LeO.refl _)
   | (with_reducible exact LeO.none _)
   | (with_reducible refine LeO.ite ?_ ?_)
   | (with_reducible refine LeO.bind ?_ (fun _ => ?_))
/-- But for block g all is as it was. -/
def KeptG (w w' : World) (g : Nat) : Prop := w.heap.size ≤ w'.heap.size ∧ ∀ k, k < w.heap.size → k ≠ g → w'.heap[k]? = w.heap[k]?
set_option maxHeartbeats 6000000 in
set_option maxRecDepth 100000 in
theorem settleE.calls (base g : Nat) (n o : Int) (vt vs : Value) (t s : List S45) (k : Nat) (t2 s2 th : List S45) (w0 w : World) (hS : Seg w base g n o vt vs t s) (hB : Below base w0 w) (hsz : base ≤ w.heap.size) (h : settleE.f k n o t s = some (t2, s2, th)) :
  Calls Try.prog 78 #[.pointer (some ⟨g, 0, none⟩)] w fun e w' => ∃ (v0 vt' vs' : Value) (B1 : Nat), e = .returned v0 ∧ Seg w' base g n o vt' vs' t2 s2 ∧ w.heap.size ≤ B1 ∧ Kd.R k45 45 w' B1 (fun _ => True) v0 th ∧ (∀ j, vt'.ownBlock = some j → j < B1) ∧ (∀ j, vs'.ownBlock = some j → j < B1) ∧ Below base w0 w' ∧ KeptG w w' g := by
 unfold settleE.f at h
 obtain ⟨⟨t1, s1⟩, A1, h⟩ := Option.bind_eq_some_iff.mp h
 obtain ⟨⟨t3, th3⟩, A2, h⟩ := Option.bind_eq_some_iff.mp h
 simp only [Option.some.injEq, Prod.mk.injEq] at h A1 A2
 obtain ⟨rfl, rfl, rfl⟩ := h
 have A1 := ak A1
 have A2 := ak A2
 have HS := ak hS
 have HB := ak hB
 have HSZ := ak hsz
 have hgl := blk_lt hS.blk
 have GL := ak hgl
 clear hS hB hsz hgl
 go_enter Try.func78, Try.ntmps78
 go_wp2
 go_loopg [4] k (fun kq _ wr => ∃ (vt vs : Value) (t s : List S45), Aside0 (settleE.l0 kq o t s = some (t1, s1)) ∧ Aside0 (Seg wr base g n o vt vs t s) ∧ Aside0 (Below base w0 wr) ∧ Aside0 (KeptG w wr g) ∧ Aside0 (kq ≤ k))
 case atStart => exact ⟨vt, vs, t, s, A1, HS, HB, ⟨⟨Nat.le_refl _, fun _ _ _ => rfl⟩⟩, ⟨Nat.le_refl _⟩⟩
 case round =>
  obtain ⟨vt, vs, t, s, HA, HSr, HBr, HK, HKQ⟩ := hrel
  cases gk with
  | zero => exact absurd HA.out (by simp [settleE.l0])
  | succ k2 =>
   have H := HA.out
   clear HA
   simp only [settleE.l0] at H
   obtain ⟨b, A3, H⟩ := Option.bind_eq_some_iff.mp H
   have A3 := ak A3
   obtain ⟨At, ct, et⟩ := Kd.R_slice HSr.out.ht
   subst et
   cases b with
   | true =>
    simp only [if_true, Option.some.injEq, Prod.mk.injEq] at H
    obtain ⟨rfl, rfl⟩ := H
    obtain ⟨As, cs, es⟩ := Kd.R_slice HSr.out.hs
    subst es
    have hc1 : wr.cell? ⟨g, 1, none⟩ = some (.int .i64 o) := (blk_cell HSr.out.blk 1).trans rfl
    have hc3 : wr.cell? ⟨g, 3, none⟩ = some (.slice As s.length cs) := (blk_cell HSr.out.blk 3).trans rfl
    go_wp2
    go_region_with (go_at_call 59; refine (impl_fits.calls k2 As cs s o true _ (Kd.C_drew (Kd.R_reads' HSr.out.hs).2.2) (Kd.R_reads' HSr.out.hs).2.1 A3.out).mono ?_; rintro e w1 ⟨rfl, hb⟩)
    all_goals
     have B1 : Aside0 (Below wr.heap.size wr w1) := ⟨below_then (below_drew (Below.refl _ _)) (Nat.le_refl _) hb⟩
     have K1 := ak (blk_below HSr.out.blk B1.out)
     clear hb hc1 hc3
     have hb0 := HSZ.out
     have hs0 := HK.out.1
     have hs1 := B1.out.size
     have S1 : Aside0 (Seg w1 base g n o (.slice At t.length ct) (.slice As s.length cs) t s) := ⟨⟨K1.out, HSr.out.ge, Kd.R_below HSr.out.ht B1.out, Kd.R_below HSr.out.hs B1.out⟩⟩
     have HB1 : Aside0 (Below base w0 w1) := ⟨HBr.out.trans (B1.out.mono (by omega))⟩
     have HG1 : Aside0 (KeptG w w1 g) := ⟨⟨by omega, fun q hq h1 => by rw [B1.out.block q (by omega), HK.out.2 q hq h1]⟩⟩
     have HW1 := ak hs1
     have HW0 := ak hs0
     clear hb0 hs0 hs1 HK HBr
     go_wp2
     try simp only [Act.put, List.getElem_toArray, List.getElem_cons_succ, List.getElem_cons_zero, List.setIfInBounds_toArray, List.set_cons_succ, List.set_cons_zero]
     go_loopg [3, 5] k (fun kq v3 _ wq => ∃ (vt : Value) (t th : List S45), Aside0 (settleE.l1 kq n t th = some (t3, th3)) ∧ Aside0 (Seg wq base g n o vt (.slice As s.length cs) t s) ∧ Aside0 (Below base w0 wq) ∧ Aside0 (KeptG w wq g) ∧ Aside0 (kq ≤ k) ∧ Aside0 (Kd.R k45 45 wq w1.heap.size (fun _ => True) v3 th) ∧ Aside0 (∀ j, vt.ownBlock = some j → j < w1.heap.size) ∧ Aside0 (w1.heap.size ≤ wq.heap.size))
     case atStart => exact ⟨_, t, [], A2, S1, HB1, HG1, ⟨Nat.le_refl _⟩, ⟨Kd.R_nil _ _ _ _ _⟩, ⟨fun j hj => Kd.R_lt S1.out.ht j hj⟩, ⟨Nat.le_refl _⟩⟩
     case round =>
      have hslt : ∀ j, (Value.slice As s.length cs).ownBlock = some j → j < w1.heap.size := fun j hj => Kd.R_lt S1.out.hs j hj
      have HSLT := ak hslt
      clear hslt
      obtain ⟨vt, t, th, HA, HSq, HBq, HKq, HKQ2, HTq, HVq, HWq⟩ := hrel
      cases gk with
      | zero => exact absurd HA.out (by simp [settleE.l1])
      | succ k3 =>
       have H := HA.out
       clear HA
       simp only [settleE.l1] at H
       obtain ⟨b, A7, H⟩ := Option.bind_eq_some_iff.mp H
       have A7 := ak A7
       obtain ⟨A3', c3', e3'⟩ := Kd.R_slice HTq.out
       subst e3'
       cases b with
       | true =>
        simp only [if_true, Option.some.injEq, Prod.mk.injEq] at H
        obtain ⟨rfl, rfl⟩ := H
        obtain ⟨At2, ct2, et2⟩ := Kd.R_slice HSq.out.ht
        subst et2
        have hc0 : wr.cell? ⟨g, 0, none⟩ = some (.int .i64 n) := (blk_cell HSq.out.blk 0).trans rfl
        have hc2 : wr.cell? ⟨g, 2, none⟩ = some (.slice At2 t.length ct2) := (blk_cell HSq.out.blk 2).trans rfl
        go_wp2
        go_region_with (go_at_call 59; refine (impl_fits.calls k3 At2 ct2 t n true _ (Kd.C_drew (Kd.R_reads' HSq.out.ht).2.2) (Kd.R_reads' HSq.out.ht).2.1 A7.out).mono ?_; rintro e w5 ⟨rfl, hb⟩)
        all_goals
         have B5 : Aside0 (Below wr.heap.size wr w5) := ⟨below_then (below_drew (Below.refl _ _)) (Nat.le_refl _) hb⟩
         clear hb hc0 hc2
         go_wp2
         go_ret
         have h1 := HW0.out
         have h2 := HW1.out
         have h3 := HWq.out
         have h4 := B5.out.size
         have h5 := HSZ.out
         exact ⟨_, _, _, w1.heap.size, rfl, ⟨blk_below HSq.out.blk B5.out, HSq.out.ge, Kd.R_below HSq.out.ht B5.out, Kd.R_below HSq.out.hs B5.out⟩, by omega, Kd.R_below HTq.out B5.out, HVq.out, HSLT.out, HBq.out.trans (B5.out.mono (by omega)), ⟨by omega, fun q hq hh => by rw [B5.out.block q (by omega), HKq.out.2 q hq hh]⟩⟩
       | false =>
        rw [if_neg (by simp)] at H
        by_cases c8 : 0 < t.length
        ·rw [if_pos c8] at H
         by_cases c9 : th.length + 1 < 4398046511104
         ·rw [if_pos c9] at H
          have LM := ak c9
          obtain ⟨g2, cap2, ev2, _, _, _⟩ := Kd.R_form HSq.out.ht c8
          subst ev2
          have hc0 : wr.cell? ⟨g, 0, none⟩ = some (.int .i64 n) := (blk_cell HSq.out.blk 0).trans rfl
          have hc2 : wr.cell? ⟨g, 2, none⟩ = some (.slice (some ⟨g2, 0, none⟩) t.length cap2) := (blk_cell HSq.out.blk 2).trans rfl
          have hmx := Kd.C_max (Kd.R_reads' HSq.out.ht).2.2
          obtain ⟨li, hli⟩ : ∃ li : Nat, li + 1 = t.length := ⟨t.length - 1, by omega⟩
          have hw : wrap64 ((t.length : Int) - 1) = (li : Int) := by unfold wrap64; omega
          have hlt : ((li : Int) < (t.length : Int)) = True := eq_true (by omega)
          have hl0 : (0 ≤ (li : Int)) = True := eq_true (by omega)
          have hle : ((li : Int) ≤ (t.length : Int)) = True := eq_true (by omega)
          have hlc : ((li : Int) ≤ (cap2 : Int)) = True := eq_true (by have := (Kd.R_reads' HSq.out.ht).2.1; omega)
          rw [show ((t.length : Int) - 1) = (li : Int) by omega] at H
          have H6 := ak H
          have HLI := ak hli
          clear hli c8 c9 hmx H
          go_wp2
          go_region_with (go_at_call 59; refine (impl_fits.calls k3 (some ⟨g2, 0, none⟩) cap2 t n false _ (Kd.C_drew (Kd.R_reads' HSq.out.ht).2.2) (Kd.R_reads' HSq.out.ht).2.1 A7.out).mono ?_; rintro e w5 ⟨rfl, hb⟩)
          all_goals
           have B5 : Aside0 (Below wr.heap.size wr w5) := ⟨below_then (below_drew (Below.refl _ _)) (Nat.le_refl _) hb⟩
           have K5 := ak (blk_below HSq.out.blk B5.out)
           clear hb hc0 hc2
           have hc2 : w5.cell? ⟨g, 2, none⟩ = some (.slice (some ⟨g2, 0, none⟩) t.length cap2) := (blk_cell K5.out 2).trans rfl
           have HT5 := ak (Kd.R_below HTq.out B5.out)
           obtain ⟨ad, ea, hx0, hx1⟩ := at_T45 (Kd.C_below (Kd.R_reads' HSq.out.ht).2.2 B5.out) (li : Int) (by omega) (by have := HLI.out; omega)
           cases ea
           simp only [Int.toNat_natCast, add_plain] at hx0 hx1
           have hsz5 := ak (show w1.heap.size ≤ w5.heap.size by have := HWq.out; have := B5.out.size; omega)
           go_wp2_with (first
            | ((with_reducible refine gate_builtin (b := .append) (xs := #[.tmp 62, .tmp 70]) rfl ?_); at_builtin; refine Kd.R_append k45 (w0 := w5) w1.heap.size rfl (.tmp 62) (.tmp 70) 26 45 (.agg #[(.string ⟨#[]⟩), (.string ⟨#[]⟩)]) 32 rfl Try.underlying26 info45 rfl (by decide) (by omega) (.slice A3' th.length c3') th (rd_T45 t (li : Int)) [.string (rd_T45 t (li : Int)).f0, .string (rd_T45 t (li : Int)).f1] (fun _ => True) (fun _ => False) rfl rfl ?aP (fun _ hk => hk.elim) ?aF ?aO ?aB ?aS ?aL ?_; (case aP => exact k45_mkM _ _ _ _); (case aB => exact Below.refl _ _); (case aF => exact (fun _ _ => trivial)); (case aO => exact HT5.out); (case aS => exact hsz5.out); (case aL => have := LM.out; omega); intro v8 w8 ho hb hg hat; have HO8 := ak ho; have HG8 := ak hg; have K8 := ak (blk_grown K5.out hg (Kd.R_ne HT5.out K5.out (by decide))); clear ho hb hg hat hc2 hx0 hx1; obtain ⟨A8, c8', e8⟩ := Kd.R_slice HO8.out; subst e8; have hc2 : w8.cell? ⟨g, 2, none⟩ = some (.slice (some ⟨g2, 0, none⟩) t.length cap2) := (blk_cell K8.out 2).trans rfl; have hf2 := blk_frozen K8.out 2))
           go_roundg k3
           case measure => omega
           case rel =>
            have hv3 : ∀ j, (Value.slice A3' th.length c3').ownBlock = some j → w1.heap.size ≤ j := fun j hj => Kd.R_base HTq.out j hj
            have hs5 := B5.out.size
            have hs8 := HG8.out.size
            have hsq := HWq.out
            have hb0 := HSZ.out
            have hw0 := HW0.out
            have hw1 := HW1.out
            have hk0 := HKq.out.1
            have hfar : ∀ q, q < w1.heap.size → q ≠ g → (w8.setCell ⟨g, 2, none⟩ (.slice (some ⟨g2, 0, none⟩) li cap2)).heap[q]? = wr.heap[q]? := fun q hq h1 => by
             rw [Below.heap_setCell _ _ _ q (by show q ≠ g; exact h1), HG8.out.block q (by omega) (fun e => by have := hv3 q e.symm; omega), B5.out.block q (by omega)]
            have hg2 : g2 < w1.heap.size := HVq.out g2 rfl
            refine ⟨.slice (some ⟨g2, 0, none⟩) li cap2, t.take (t.length - 1), th ++ [rd_T45 t (li : Int)], H6, ⟨⟨?_, HSq.out.ge, ?_, ?_⟩⟩, ⟨?_⟩, ⟨?_⟩, ⟨by have := HKQ2.out; omega⟩, ⟨?_⟩, ⟨fun j hj => HVq.out j (by simpa [Value.ownBlock] using hj)⟩, ⟨by simp only [World.setCell, Array.size_modify]; omega⟩⟩
            ·exact blk_put (cs := #[.int .i64 n, .int .i64 o, .slice (some ⟨g2, 0, none⟩) t.length cap2, .slice As s.length cs]) K8.out 2 _ rfl
            ·rw [show t.length - 1 = li by have := HLI.out; omega]
             refine Kd.R_take (n := t.length) (row_move HSq.out.ht (fun q hq => ?_)) (by have := HLI.out; omega)
             obtain rfl : g2 = q := by simpa [Value.ownBlock] using hq
             exact hfar g2 hg2 (fun e => Kd.R_ne HSq.out.ht HSq.out.blk (by decide) (by rw [← e]; rfl))
            ·refine row_ok (row_move HSq.out.hs (fun q hq => hfar q (HSLT.out q hq) (fun e => Kd.R_ne HSq.out.hs HSq.out.blk (by decide) (by rw [← e, hq])))) (fun q hq e => ?_)
             exact HSq.out.hs.1 q hq (by simpa [Value.ownBlock] using e)
            ·exact ((HBq.out.trans (B5.out.mono (by omega))).trans ⟨HG8.out.os, HG8.out.tape, HG8.out.output, HG8.out.size, fun q hq => HG8.out.block q (by omega) (fun e => by have := hv3 q e.symm; omega)⟩).setCell HSq.out.ge _
            ·refine ⟨by simp only [World.setCell, Array.size_modify]; omega, fun q hq h1 => ?_⟩
             rw [hfar q (by omega) h1, HKq.out.2 q hq h1]
            ·have HO9 := HO8.out
             rw [List.length_append, List.length_singleton] at HO9
             refine row_move HO9 (fun q hq => ?_)
             rw [Below.heap_setCell _ _ _ q (by show q ≠ g; exact fun e => Kd.R_ne HO9 K8.out (by decide) (by rw [← e, hq]))]
         ·rw [if_neg c9] at H; exact absurd H (by simp)
        ·rw [if_neg c8] at H; exact absurd H (by simp)
   | false =>
    rw [if_neg (by simp)] at H
    by_cases c4 : 0 < s.length
    ·rw [if_pos c4] at H
     obtain ⟨t', A5, H⟩ := Option.bind_eq_some_iff.mp H
     have H6 := ak H
     clear H
     obtain ⟨g1, cap, ev, _, _, _⟩ := Kd.R_form HSr.out.hs c4
     subst ev
     have hc1 : wr.cell? ⟨g, 1, none⟩ = some (.int .i64 o) := (blk_cell HSr.out.blk 1).trans rfl
     have hc3 : wr.cell? ⟨g, 3, none⟩ = some (.slice (some ⟨g1, 0, none⟩) s.length cap) := (blk_cell HSr.out.blk 3).trans rfl
     have hmx := Kd.C_max (Kd.R_reads' HSr.out.hs).2.2
     obtain ⟨li, hli⟩ : ∃ li : Nat, li + 1 = s.length := ⟨s.length - 1, by omega⟩
     have hw : wrap64 ((s.length : Int) - 1) = (li : Int) := by unfold wrap64; omega
     have hlt : ((li : Int) < (s.length : Int)) = True := eq_true (by omega)
     have hl0 : (0 ≤ (li : Int)) = True := eq_true (by omega)
     have hle : ((li : Int) ≤ (s.length : Int)) = True := eq_true (by omega)
     have hlc : ((li : Int) ≤ (cap : Int)) = True := eq_true (by have := (Kd.R_reads' HSr.out.hs).2.1; omega)
     rw [show ((s.length : Int) - 1) = (li : Int) by omega] at A5
     have A5 := ak A5
     have HLI := ak hli
     clear hli c4 hmx
     go_wp2
     go_region_with (go_at_call 59; refine (impl_fits.calls k2 (some ⟨g1, 0, none⟩) cap s o false _ (Kd.C_drew (Kd.R_reads' HSr.out.hs).2.2) (Kd.R_reads' HSr.out.hs).2.1 A3.out).mono ?_; rintro e w1 ⟨rfl, hb⟩)
     all_goals
      have B1 : Aside0 (Below wr.heap.size wr w1) := ⟨below_then (below_drew (Below.refl _ _)) (Nat.le_refl _) hb⟩
      have K1 := ak (blk_below HSr.out.blk B1.out)
      clear hb hc1 hc3
      have hc3 : w1.cell? ⟨g, 3, none⟩ = some (.slice (some ⟨g1, 0, none⟩) s.length cap) := (blk_cell K1.out 3).trans rfl
      have hc2 : w1.cell? ⟨g, 2, none⟩ = some (.slice At t.length ct) := (blk_cell K1.out 2).trans rfl
      obtain ⟨ad, ea, hx0, hx1⟩ := at_T45 (Kd.C_below (Kd.R_reads' HSr.out.hs).2.2 B1.out) (li : Int) (by omega) (by have := HLI.out; omega)
      cases ea
      simp only [Int.toNat_natCast, add_plain] at hx0 hx1
      go_wp2
      go_region_with (go_at_call 77; refine (impl_ahead.calls At ct t (rd_T45 s (li : Int)).f0 (rd_T45 s (li : Int)).f1 t' _ (Kd.C_drew (Kd.C_below (Kd.R_reads' HSr.out.ht).2.2 B1.out)) (Kd.R_reads' HSr.out.ht).2.1 A5.out).mono ?_; rintro e w2 ⟨v2, rfl, ho, hb⟩; have B2 : Aside0 (Below w1.heap.size w1 w2) := ⟨below_then (below_drew (Below.refl _ _)) (Nat.le_refl _) hb⟩; have K2 := ak (blk_below K1.out B2.out); have HO2 : Aside0 (Kd.R k45 45 w2 w1.heap.size (fun _ => True) v2 t') := ⟨Kd.R_lower ho (Nat.le_refl _)⟩; clear ho hb hc3 hc2 hx0 hx1; obtain ⟨A2', c2', e2'⟩ := Kd.R_slice HO2.out; subst e2'; have hc3 : w2.cell? ⟨g, 3, none⟩ = some (.slice (some ⟨g1, 0, none⟩) s.length cap) := (blk_cell K2.out 3).trans rfl; have hc2 : w2.cell? ⟨g, 2, none⟩ = some (.slice At t.length ct) := (blk_cell K2.out 2).trans rfl; have hf2 := blk_frozen K2.out 2; have hf3 := blk_frozen K2.out 3)
     all_goals
      go_wp2
      go_roundg k2
      case measure => omega
      case rel =>
       have hg1 : g1 < wr.heap.size := Kd.R_lt HSr.out.hs g1 rfl
       have hgw : g < wr.heap.size := blk_lt HSr.out.blk
       have hs1 := B1.out.size
       have hs2 := B2.out.size
       have hs0 := HK.out.1
       have hb0 := HSZ.out
       have hfar : ∀ q, q ≠ g → ((w2.setCell ⟨g, 2, none⟩ (.slice A2' t'.length c2')).setCell ⟨g, 3, none⟩ (.slice (some ⟨g1, 0, none⟩) li cap)).heap[q]? = w2.heap[q]? := fun q hq => by
        rw [Below.heap_setCell _ _ _ q (by show q ≠ g; exact hq), Below.heap_setCell _ _ _ q (by show q ≠ g; exact hq)]
       have hold : ∀ q, q < wr.heap.size → w2.heap[q]? = wr.heap[q]? := fun q hq => by rw [B2.out.block q (by omega), B1.out.block q hq]
       refine ⟨.slice A2' t'.length c2', .slice (some ⟨g1, 0, none⟩) li cap, t', s.take (s.length - 1), H6, ⟨⟨?_, HSr.out.ge, ?_, ?_⟩⟩, ⟨?_⟩, ⟨?_⟩, ⟨by have := HKQ.out; omega⟩⟩
       ·exact blk_put (cs := #[.int .i64 n, .int .i64 o, .slice A2' t'.length c2', .slice (some ⟨g1, 0, none⟩) s.length cap]) (blk_put (cs := #[.int .i64 n, .int .i64 o, .slice At t.length ct, .slice (some ⟨g1, 0, none⟩) s.length cap]) K2.out 2 _ rfl) 3 _ rfl
       ·refine row_ok (row_move (Kd.R_lower HO2.out (by omega)) (fun q hq => hfar q (by have := Kd.R_base HO2.out q hq; omega))) (fun q hq e => ?_)
        have := Kd.R_base HO2.out q hq
        have e2 : q = g1 := by simpa [Value.ownBlock] using e
        omega
       ·rw [show s.length - 1 = li by have := HLI.out; omega]
        refine Kd.R_take (n := s.length) (row_ok (row_move HSr.out.hs (fun q hq => ?_)) (fun q hq e => ?_)) (by have := HLI.out; omega)
        ·obtain rfl : g1 = q := by simpa [Value.ownBlock] using hq
         rw [hfar g1 (fun e => Kd.R_ne HSr.out.hs HSr.out.blk (by decide) (by rw [← e]; rfl)), hold g1 hg1]
        ·obtain rfl : g1 = q := by simpa [Value.ownBlock] using hq
         have := Kd.R_base HO2.out g1 e.symm
         omega
       ·exact ((((HBr.out.trans (B1.out.mono (by omega))).trans (B2.out.mono (by omega))).setCell HSr.out.ge _).setCell HSr.out.ge _)
       ·refine ⟨by simp only [World.setCell, Array.size_modify]; omega, fun q hq h1 => ?_⟩
        rw [hfar q h1, hold q (by omega), HK.out.2 q hq h1]
    ·rw [if_neg c4] at H; exact absurd H (by simp)

/-! ### put: function 52 -/
def impl_Segmented_put.f (k : Nat) (a0_0 : Int) (a0_1 : Int) (l0_2 : List (S45)) (l0_3 : List (S45)) (a1_0 : ByteArray) (a1_1 : ByteArray) : Option (Int × Int × (List (S45)) × (List (S45)) × (List (S45))) := (impl_Segmented_own.f a0_0 a0_1 l0_2 l0_3).bind fun o => (if (takeE a1_0 o.2.2.1 o.2.2.2).2.1 = true then ((impl_ahead.f (takeE a1_0 o.2.2.1 o.2.2.2).2.2.2.2 a1_0 a1_1).bind fun q => (settleE.f k o.1 o.2.1 (takeE a1_0 o.2.2.1 o.2.2.2).2.2.2.1 q).bind fun z => (impl_Segmented_own.f o.1 o.2.1 z.1 z.2.1).bind fun y => some (y.1, y.2.1, y.2.2.1, y.2.2.2, z.2.2)) else ((impl_ahead.f (takeE a1_0 o.2.2.1 o.2.2.2).2.2.2.1 a1_0 a1_1).bind fun q => (settleE.f k o.1 o.2.1 q (takeE a1_0 o.2.2.1 o.2.2.2).2.2.2.2).bind fun z => (impl_Segmented_own.f o.1 o.2.1 z.1 z.2.1).bind fun y => some (y.1, y.2.1, y.2.2.1, y.2.2.2, z.2.2)))
theorem impl_Segmented_put.mono : ∀ a0_0 a0_1 l0_2 l0_3 a1_0 a1_1 k, LeO (impl_Segmented_put.f k a0_0 a0_1 l0_2 l0_3 a1_0 a1_1) (impl_Segmented_put.f (k + 1) a0_0 a0_1 l0_2 l0_3 a1_0 a1_1) := by
 intro a0_0 a0_1 l0_2 l0_3 a1_0 a1_1 k
 unfold impl_Segmented_put.f
 repeat' first
   | (with_reducible exact settleE.mono _ _ _ _ _)
   | (with_reducible exact LeO.refl _)
   | (with_reducible exact LeO.none _)
   | (with_reducible refine LeO.ite ?_ ?_)
   | (with_reducible refine LeO.bind ?_ (fun _ => ?_))

set_option maxHeartbeats 4000000 in
set_option maxRecDepth 100000 in
theorem impl_Segmented_put.calls (k : Nat) (a0_0 : Int) (a0_1 : Int) (A0_2 : Option Addr) (c0_2 : Nat) (l0_2 : List (S45)) (A0_3 : Option Addr) (c0_3 : Nat) (l0_3 : List (S45)) (a1_0 : ByteArray) (a1_1 : ByteArray) (r1 : Int) (r2 : Int) (r3 : List (S45)) (r4 : List (S45)) (r5 : List (S45)) (w : World) (hr0_2 : Kd.C k45 w A0_2 l0_2.length l0_2) (hc0_2 : l0_2.length ≤ c0_2) (hr0_3 : Kd.C k45 w A0_3 l0_3.length l0_3) (hc0_3 : l0_3.length ≤ c0_3) (h : impl_Segmented_put.f k a0_0 a0_1 l0_2 l0_3 a1_0 a1_1 = some (r1, r2, r3, r4, r5)) :
  Calls Try.prog 52 #[.agg #[.int .i64 a0_0, .int .i64 a0_1, .slice A0_2 l0_2.length c0_2, .slice A0_3 l0_3.length c0_3], .agg #[.string a1_0, .string a1_1]] w fun e w' => ∃ v2_ v3_ v4_ : Value, e = .returned (.tuple #[.agg #[.int .i64 r1, .int .i64 r2, v2_, v3_], v4_]) ∧ Kd.R k45 45 w' w.heap.size (fun k_ => some k_ ≠ (v3_ : Value).ownBlock ∧ some k_ ≠ (v4_ : Value).ownBlock) v2_ r3 ∧ Kd.R k45 45 w' w.heap.size (fun k_ => some k_ ≠ (v2_ : Value).ownBlock ∧ some k_ ≠ (v4_ : Value).ownBlock) v3_ r4 ∧ Kd.R k45 45 w' w.heap.size (fun k_ => some k_ ≠ (v2_ : Value).ownBlock ∧ some k_ ≠ (v3_ : Value).ownBlock) v4_ r5 ∧ Below w.heap.size w w' := by
 have HR2 := ak hr0_2
 have HR3 := ak hr0_3
 have HC2 := ak hc0_2
 have HC3 := ak hc0_3
 clear hr0_2 hr0_3 hc0_2 hc0_3
 have hu28 := Try.underlying28
 have hu45 := Try.underlying45
 unfold impl_Segmented_put.f at h
 obtain ⟨⟨o1, o2, t0, s0⟩, A1, h2⟩ := Option.bind_eq_some_iff.mp h
 clear h
 obtain ⟨rfl, rfl⟩ := own_numbers A1
 have h := h2
 clear h2
 dsimp only at h
 have A1 := ak A1
 by_cases hc : (takeE a1_0 t0 s0).2.1 = true
 ·rw [if_pos hc] at h
  have HTK : Aside0 ((takeE a1_0 t0 s0).2.1 = true) := ⟨by simpa using hc⟩
  clear hc
  obtain ⟨q, A2, h⟩ := Option.bind_eq_some_iff.mp h
  obtain ⟨⟨t2, s2, th⟩, A3, h⟩ := Option.bind_eq_some_iff.mp h
  obtain ⟨⟨y1, y2, y3, y4⟩, A4, h⟩ := Option.bind_eq_some_iff.mp h
  simp only [Option.some.injEq, Prod.mk.injEq] at h
  obtain ⟨rfl, rfl, rfl, rfl, rfl⟩ := h
  try dsimp only at A2 A3 A4
  have A2 := ak A2
  have A3 := ak A3
  have A4 := ak A4
  go_enter Try.func52, Try.ntmps52
  go_wp2_with (first
     | (refine bE 2 #[.int .i64 a0_0, .int .i64 a0_1, .slice A0_2 l0_2.length c0_2, .slice A0_3 l0_3.length c0_3] 28 ?_; intro b2 hb2 x1 kb hb; have HB := ak hb; have K2 := ak kb; have G2 := ak hb2; clear hb kb hb2)
     | (refine bE 3 #[.string a1_0, .string a1_1] 45 ?_; intro b3 hb3 x2 kb hb; have n0_ := ak (below_then HB.out HB.out.size hb); have n1_ := ak (blk_below K2.out hb); clear HB K2; have HB := n0_; have K2 := n1_; have K3 := ak kb; clear hb kb hb3 n0_ n1_)
     | (refine bE 4 #[.int .i64 0, .int .i64 0, .slice none 0 0, .slice none 0 0] 28 ?_; intro b4 hb4 x3 kb hb; have G4 : Aside0 (w.heap.size ≤ b4) := ⟨by rw [hb4]; exact HB.out.size⟩; have n0_ := ak (below_then HB.out HB.out.size hb); have n1_ := ak (blk_below K2.out hb); have n2_ := ak (blk_below K3.out hb); clear HB K2 K3; have HB := n0_; have K2 := n1_; have K3 := n2_; have K4 := ak kb; clear hb kb hb4 n0_ n1_ n2_; have hz0 : x3.cell? ⟨b2, 0, none⟩ = some (.int .i64 a0_0) := (blk_cell K2.out 0).trans rfl; have hz1 : x3.cell? ⟨b2, 1, none⟩ = some (.int .i64 a0_1) := (blk_cell K2.out 1).trans rfl; have hz2 : x3.cell? ⟨b2, 2, none⟩ = some (.slice A0_2 l0_2.length c0_2) := (blk_cell K2.out 2).trans rfl; have hz3 : x3.cell? ⟨b2, 3, none⟩ = some (.slice A0_3 l0_3.length c0_3) := (blk_cell K2.out 3).trans rfl)
     | (go_at_call 45; (with_reducible refine (impl_Segmented_own.calls a0_0 a0_1 A0_2 c0_2 l0_2 A0_3 c0_3 l0_3 a0_0 a0_1 t0 s0 x3 (Kd.C_below HR2.out HB.out) HC2.out (Kd.C_below HR3.out HB.out) HC3.out A1.out).mono ?_); rintro e x4 ⟨vt, vs, rfl, ho1, ho2, hb⟩; have HT := ak ho1; have HS := ak ho2; have BO := ak hb; clear ho1 ho2 hb hz0 hz1 hz2 hz3; obtain ⟨At, ct, et⟩ := Kd.R_slice HT.out; subst et; obtain ⟨As, cs, es⟩ := Kd.R_slice HS.out; subst es; have h3l : b3 < x3.heap.size := blk_lt K3.out; have h3m : b3 < x4.heap.size := (by have := BO.out.size; omega); have hk0 : x4.cell? ⟨b3, 0, none⟩ = some (.string a1_0) := ((BO.out.cell (p := ⟨b3, 0, none⟩) h3l).trans (blk_cell K3.out 0)).trans rfl)
     | (go_at_call 46; refine (take.calls x3.heap.size x4.heap.size a0_0 a0_1 (.slice At t0.length ct) (.slice As s0.length cs) t0 s0 a1_0 x3 _ ⟨blk_new x4 _, BO.out.size, Kd.R_alloc HT.out _, Kd.R_alloc HS.out _⟩ (BO.out.alloc BO.out.size _) (by have := BO.out.size; simp only [World.size_alloc]; omega)).mono ?_; rintro e x5 ⟨rfl, ⟨vt', vs', hseg⟩, hb, hk⟩; rw [HTK.out]; have SG := ak hseg; have B5 := ak hb; clear hseg hb hk; obtain ⟨At', ct', et⟩ := Kd.R_slice SG.out.ht; subst et; obtain ⟨As', cs', es⟩ := Kd.R_slice SG.out.hs; subst es; have hg5 : x4.heap.size < x5.heap.size := blk_lt SG.out.blk; clear hk0 h3m; have h3m : b3 < x5.heap.size := (by have := BO.out.size; omega); have hk0 : x5.cell? ⟨b3, 0, none⟩ = some (.string a1_0) := ((B5.out.cell (p := ⟨b3, 0, none⟩) h3l).trans (blk_cell K3.out 0)).trans rfl; have hk1 : x5.cell? ⟨b3, 1, none⟩ = some (.string a1_1) := ((B5.out.cell (p := ⟨b3, 1, none⟩) h3l).trans (blk_cell K3.out 1)).trans rfl; have hm3 : x5.cell? ⟨x4.heap.size, 3, none⟩ = some (.slice As' (takeE a1_0 t0 s0).2.2.2.2.length cs') := (blk_cell SG.out.blk 3).trans rfl)
     | (go_at_call 77; refine (impl_ahead.calls As' cs' (takeE a1_0 t0 s0).2.2.2.2 a1_0 a1_1 q _ (Kd.C_alloc (Kd.R_reads' SG.out.hs).2.2 _) (Kd.R_reads' SG.out.hs).2.1 A2.out).mono ?_; rintro e x6 ⟨v6, rfl, ho, hb⟩; have O6 : Aside0 (Kd.R k45 45 x6 x5.heap.size (fun _ => True) v6 q) := ⟨Kd.R_lower ho (by simp only [World.size_alloc]; omega)⟩; have B6 : Aside0 (Below x5.heap.size x5 x6) := ⟨below_then (below_alloc (Below.refl _ _) _) (by simp only [World.size_alloc]; omega) hb⟩; clear ho hb hk0 hk1 hm3; obtain ⟨A6, c6, e6⟩ := Kd.R_slice O6.out; subst e6; have K6 := ak (blk_below SG.out.blk B6.out); have hm3 := (blk_cell K6.out 3).trans rfl; have hf3 := blk_frozen K6.out 3)
     | (go_at_call 78; have hs5 : x3.heap.size ≤ x5.heap.size := (by have := BO.out.size; omega); have h6s := B6.out.size; refine (settleE.calls x3.heap.size x4.heap.size a0_0 a0_1 (.slice At' (takeE a1_0 t0 s0).2.2.2.1.length ct') (.slice A6 q.length c6) (takeE a1_0 t0 s0).2.2.2.1 q k t2 s2 th x3 _ ⟨blk_put (cs := #[.int .i64 a0_0, .int .i64 a0_1, .slice At' (takeE a1_0 t0 s0).2.2.2.1.length ct', .slice As' (takeE a1_0 t0 s0).2.2.2.2.length cs']) K6.out 3 _ rfl, BO.out.size, row_ok (row_move (Kd.R_below SG.out.ht B6.out) (fun j hj => Below.heap_setCell _ _ _ j (fun e => Kd.R_ne SG.out.ht SG.out.blk (by decide) (by rw [hj]; exact congrArg some e.symm)))) (fun j hj e => by have h1 := Kd.R_lt SG.out.ht j hj; have h2 := Kd.R_base O6.out j e.symm; omega), row_ok (row_move (Kd.R_lower O6.out hs5) (fun j hj => Below.heap_setCell _ _ _ j (fun e => by have h2 := Kd.R_base O6.out j hj; have e2 : j = x4.heap.size := e; omega))) (fun j hj e => by have h1 := Kd.R_lt SG.out.ht j e.symm; have h2 := Kd.R_base O6.out j hj; omega)⟩ ((B5.out.trans (B6.out.mono hs5)).setCell (show x3.heap.size ≤ x4.heap.size from BO.out.size) _) (by simp only [World.setCell, Array.size_modify]; omega) A3.out).mono ?_; rintro e x7 ⟨v7, vt7, vs7, B1, rfl, hseg, hB1, ho, hl1, hl2, hb, hk⟩; have S7 := ak hseg; have O7 := ak ho; have B7 := ak hb; have HB1 : Aside0 (x5.heap.size ≤ B1) := ⟨by simp only [World.setCell, Array.size_modify] at hB1; omega⟩; clear hseg ho hb hk hl1 hl2 hm3 hf3 hB1; obtain ⟨A7t, c7t, e7⟩ := Kd.R_slice S7.out.ht; subst e7; obtain ⟨A7s, c7s, e7⟩ := Kd.R_slice S7.out.hs; subst e7; obtain ⟨A7, c7, e7⟩ := Kd.R_slice O7.out; subst e7; have hy0 : x7.cell? ⟨x4.heap.size, 0, none⟩ = some (.int .i64 a0_0) := (blk_cell S7.out.blk 0).trans rfl; have hy1 : x7.cell? ⟨x4.heap.size, 1, none⟩ = some (.int .i64 a0_1) := (blk_cell S7.out.blk 1).trans rfl; have hy2 : x7.cell? ⟨x4.heap.size, 2, none⟩ = some (.slice A7t t2.length c7t) := (blk_cell S7.out.blk 2).trans rfl; have hy3 : x7.cell? ⟨x4.heap.size, 3, none⟩ = some (.slice A7s s2.length c7s) := (blk_cell S7.out.blk 3).trans rfl)
     | (go_at_call 45; (with_reducible refine (impl_Segmented_own.calls a0_0 a0_1 A7t c7t t2 A7s c7s s2 y1 y2 y3 y4 x7 (Kd.R_reads' S7.out.ht).2.2 (Kd.R_reads' S7.out.ht).2.1 (Kd.R_reads' S7.out.hs).2.2 (Kd.R_reads' S7.out.hs).2.1 A4.out).mono ?_); rintro e x8 ⟨vt8, vs8, rfl, ho1, ho2, hb⟩; have T8 := ak ho1; have S8 := ak ho2; have B8 := ak hb; clear ho1 ho2 hb hy0 hy1 hy2 hy3; obtain ⟨A8t, c8t, e8⟩ := Kd.R_slice T8.out; subst e8; obtain ⟨A8s, c8s, e8⟩ := Kd.R_slice S8.out; subst e8; have h4l : b4 < x3.heap.size := blk_lt K4.out; have h7s : x3.heap.size ≤ x7.heap.size := B7.out.size; have K8 := ak (blk_below (show x7.heap[b4]? = _ from (B7.out.block b4 h4l).trans K4.out) B8.out); have hu0 := (blk_cell K8.out 0).trans rfl; have hu1 := (blk_cell K8.out 1).trans rfl; have hu2 := (blk_cell K8.out 2).trans rfl; have hu3 := (blk_cell K8.out 3).trans rfl; have hv0 := blk_frozen K8.out 0; have hv1 := blk_frozen K8.out 1; have hv2 := blk_frozen K8.out 2; have hv3 := blk_frozen K8.out 3))
  have hbb := HB.out
  have h3w : w.heap.size ≤ x3.heap.size := HB.out.size
  have h4w := G4.out
  have e5 := HB1.out
  have hx35 : x3.heap.size ≤ x5.heap.size := by have := B5.out.size; omega
  have hfar : ∀ j, j ≠ b4 → ((((x8.setCell ⟨b4, 0, none⟩ (.int .i64 y1)).setCell ⟨b4, 1, none⟩ (.int .i64 y2)).setCell ⟨b4, 2, none⟩ (.slice A8t y3.length c8t)).setCell ⟨b4, 3, none⟩ (.slice A8s y4.length c8s)).heap[j]? = x8.heap[j]? := fun j hj => by
   rw [Below.heap_setCell _ _ _ j (by show j ≠ b4; exact hj), Below.heap_setCell _ _ _ j (by show j ≠ b4; exact hj), Below.heap_setCell _ _ _ j (by show j ≠ b4; exact hj), Below.heap_setCell _ _ _ j (by show j ≠ b4; exact hj)]
  refine bodyPost_ret (results_ct rfl _ _ b4 28 #[.int .i64 y1, .int .i64 y2, .slice A8t y3.length c8t, .slice A8s y4.length c8s] (0, 0) _ rfl (by refine blk_put (cs := #[.int .i64 y1, .int .i64 y2, .slice A8t y3.length c8t, .slice none 0 0]) ?_ 3 _ rfl; refine blk_put (cs := #[.int .i64 y1, .int .i64 y2, .slice none 0 0, .slice none 0 0]) ?_ 2 _ rfl; refine blk_put (cs := #[.int .i64 y1, .int .i64 0, .slice none 0 0, .slice none 0 0]) ?_ 1 _ rfl; exact blk_put (cs := #[.int .i64 0, .int .i64 0, .slice none 0 0, .slice none 0 0]) K8.out 0 _ rfl) Try.underlying28 rfl (by kernel_rfl)) rfl ?_
  refine ⟨.slice A8t y3.length c8t, .slice A8s y4.length c8s, .slice A7 th.length c7, rfl, ?_, ?_, ?_, ?_⟩
  ·exact row_ok (row_move (Kd.R_lower T8.out (by omega)) (fun j hj => hfar j (by have := Kd.R_base T8.out j hj; omega))) (fun j hj => ⟨T8.out.1 j hj, fun e => by have h1 := Kd.R_base T8.out j hj; have h2 := Kd.R_lt O7.out j e.symm; omega⟩)
  ·exact row_ok (row_move (Kd.R_lower S8.out (by omega)) (fun j hj => hfar j (by have := Kd.R_base S8.out j hj; omega))) (fun j hj => ⟨S8.out.1 j hj, fun e => by have h1 := Kd.R_base S8.out j hj; have h2 := Kd.R_lt O7.out j e.symm; omega⟩)
  ·exact row_ok (row_move (Kd.R_lower (Kd.R_below O7.out B8.out) (by omega)) (fun j hj => hfar j (by have := Kd.R_base O7.out j hj; omega))) (fun j hj => ⟨fun e => by have h1 := Kd.R_base T8.out j e.symm; have h2 := Kd.R_lt O7.out j hj; omega, fun e => by have h1 := Kd.R_base S8.out j e.symm; have h2 := Kd.R_lt O7.out j hj; omega⟩)
  ·exact ((((below_then (below_then HB.out h3w (B7.out.mono (Nat.le_refl _))) (by omega) B8.out).setCell (by show w.heap.size ≤ b4; omega) _).setCell (by show w.heap.size ≤ b4; omega) _).setCell (by show w.heap.size ≤ b4; omega) _).setCell (by show w.heap.size ≤ b4; omega) _

 ·rw [if_neg hc] at h
  have HTK : Aside0 ((takeE a1_0 t0 s0).2.1 = false) := ⟨by simpa using hc⟩
  clear hc
  obtain ⟨q, A2, h⟩ := Option.bind_eq_some_iff.mp h
  obtain ⟨⟨t2, s2, th⟩, A3, h⟩ := Option.bind_eq_some_iff.mp h
  obtain ⟨⟨y1, y2, y3, y4⟩, A4, h⟩ := Option.bind_eq_some_iff.mp h
  simp only [Option.some.injEq, Prod.mk.injEq] at h
  obtain ⟨rfl, rfl, rfl, rfl, rfl⟩ := h
  try dsimp only at A2 A3 A4
  have A2 := ak A2
  have A3 := ak A3
  have A4 := ak A4
  go_enter Try.func52, Try.ntmps52
  go_wp2_with (first
     | (refine bE 2 #[.int .i64 a0_0, .int .i64 a0_1, .slice A0_2 l0_2.length c0_2, .slice A0_3 l0_3.length c0_3] 28 ?_; intro b2 hb2 x1 kb hb; have HB := ak hb; have K2 := ak kb; have G2 := ak hb2; clear hb kb hb2)
     | (refine bE 3 #[.string a1_0, .string a1_1] 45 ?_; intro b3 hb3 x2 kb hb; have n0_ := ak (below_then HB.out HB.out.size hb); have n1_ := ak (blk_below K2.out hb); clear HB K2; have HB := n0_; have K2 := n1_; have K3 := ak kb; clear hb kb hb3 n0_ n1_)
     | (refine bE 4 #[.int .i64 0, .int .i64 0, .slice none 0 0, .slice none 0 0] 28 ?_; intro b4 hb4 x3 kb hb; have G4 : Aside0 (w.heap.size ≤ b4) := ⟨by rw [hb4]; exact HB.out.size⟩; have n0_ := ak (below_then HB.out HB.out.size hb); have n1_ := ak (blk_below K2.out hb); have n2_ := ak (blk_below K3.out hb); clear HB K2 K3; have HB := n0_; have K2 := n1_; have K3 := n2_; have K4 := ak kb; clear hb kb hb4 n0_ n1_ n2_; have hz0 : x3.cell? ⟨b2, 0, none⟩ = some (.int .i64 a0_0) := (blk_cell K2.out 0).trans rfl; have hz1 : x3.cell? ⟨b2, 1, none⟩ = some (.int .i64 a0_1) := (blk_cell K2.out 1).trans rfl; have hz2 : x3.cell? ⟨b2, 2, none⟩ = some (.slice A0_2 l0_2.length c0_2) := (blk_cell K2.out 2).trans rfl; have hz3 : x3.cell? ⟨b2, 3, none⟩ = some (.slice A0_3 l0_3.length c0_3) := (blk_cell K2.out 3).trans rfl)
     | (go_at_call 45; (with_reducible refine (impl_Segmented_own.calls a0_0 a0_1 A0_2 c0_2 l0_2 A0_3 c0_3 l0_3 a0_0 a0_1 t0 s0 x3 (Kd.C_below HR2.out HB.out) HC2.out (Kd.C_below HR3.out HB.out) HC3.out A1.out).mono ?_); rintro e x4 ⟨vt, vs, rfl, ho1, ho2, hb⟩; have HT := ak ho1; have HS := ak ho2; have BO := ak hb; clear ho1 ho2 hb hz0 hz1 hz2 hz3; obtain ⟨At, ct, et⟩ := Kd.R_slice HT.out; subst et; obtain ⟨As, cs, es⟩ := Kd.R_slice HS.out; subst es; have h3l : b3 < x3.heap.size := blk_lt K3.out; have h3m : b3 < x4.heap.size := (by have := BO.out.size; omega); have hk0 : x4.cell? ⟨b3, 0, none⟩ = some (.string a1_0) := ((BO.out.cell (p := ⟨b3, 0, none⟩) h3l).trans (blk_cell K3.out 0)).trans rfl)
     | (go_at_call 46; refine (take.calls x3.heap.size x4.heap.size a0_0 a0_1 (.slice At t0.length ct) (.slice As s0.length cs) t0 s0 a1_0 x3 _ ⟨blk_new x4 _, BO.out.size, Kd.R_alloc HT.out _, Kd.R_alloc HS.out _⟩ (BO.out.alloc BO.out.size _) (by have := BO.out.size; simp only [World.size_alloc]; omega)).mono ?_; rintro e x5 ⟨rfl, ⟨vt', vs', hseg⟩, hb, hk⟩; rw [HTK.out]; have SG := ak hseg; have B5 := ak hb; clear hseg hb hk; obtain ⟨At', ct', et⟩ := Kd.R_slice SG.out.ht; subst et; obtain ⟨As', cs', es⟩ := Kd.R_slice SG.out.hs; subst es; have hg5 : x4.heap.size < x5.heap.size := blk_lt SG.out.blk; clear hk0 h3m; have h3m : b3 < x5.heap.size := (by have := BO.out.size; omega); have hk0 : x5.cell? ⟨b3, 0, none⟩ = some (.string a1_0) := ((B5.out.cell (p := ⟨b3, 0, none⟩) h3l).trans (blk_cell K3.out 0)).trans rfl; have hk1 : x5.cell? ⟨b3, 1, none⟩ = some (.string a1_1) := ((B5.out.cell (p := ⟨b3, 1, none⟩) h3l).trans (blk_cell K3.out 1)).trans rfl; have hm3 : x5.cell? ⟨x4.heap.size, 2, none⟩ = some (.slice At' (takeE a1_0 t0 s0).2.2.2.1.length ct') := (blk_cell SG.out.blk 2).trans rfl)
     | (go_at_call 77; refine (impl_ahead.calls At' ct' (takeE a1_0 t0 s0).2.2.2.1 a1_0 a1_1 q _ (Kd.C_alloc (Kd.R_reads' SG.out.ht).2.2 _) (Kd.R_reads' SG.out.ht).2.1 A2.out).mono ?_; rintro e x6 ⟨v6, rfl, ho, hb⟩; have O6 : Aside0 (Kd.R k45 45 x6 x5.heap.size (fun _ => True) v6 q) := ⟨Kd.R_lower ho (by simp only [World.size_alloc]; omega)⟩; have B6 : Aside0 (Below x5.heap.size x5 x6) := ⟨below_then (below_alloc (Below.refl _ _) _) (by simp only [World.size_alloc]; omega) hb⟩; clear ho hb hk0 hk1 hm3; obtain ⟨A6, c6, e6⟩ := Kd.R_slice O6.out; subst e6; have K6 := ak (blk_below SG.out.blk B6.out); have hm3 := (blk_cell K6.out 2).trans rfl; have hf3 := blk_frozen K6.out 2)
     | (go_at_call 78; have hs5 : x3.heap.size ≤ x5.heap.size := (by have := BO.out.size; omega); have h6s := B6.out.size; refine (settleE.calls x3.heap.size x4.heap.size a0_0 a0_1 (.slice A6 q.length c6) (.slice As' (takeE a1_0 t0 s0).2.2.2.2.length cs') q (takeE a1_0 t0 s0).2.2.2.2 k t2 s2 th x3 _ ⟨blk_put (cs := #[.int .i64 a0_0, .int .i64 a0_1, .slice At' (takeE a1_0 t0 s0).2.2.2.1.length ct', .slice As' (takeE a1_0 t0 s0).2.2.2.2.length cs']) K6.out 2 _ rfl, BO.out.size, row_ok (row_move (Kd.R_lower O6.out hs5) (fun j hj => Below.heap_setCell _ _ _ j (fun e => by have h2 := Kd.R_base O6.out j hj; have e2 : j = x4.heap.size := e; omega))) (fun j hj e => by have h1 := Kd.R_lt SG.out.hs j e.symm; have h2 := Kd.R_base O6.out j hj; omega), row_ok (row_move (Kd.R_below SG.out.hs B6.out) (fun j hj => Below.heap_setCell _ _ _ j (fun e => Kd.R_ne SG.out.hs SG.out.blk (by decide) (by rw [hj]; exact congrArg some e.symm)))) (fun j hj e => by have h1 := Kd.R_lt SG.out.hs j hj; have h2 := Kd.R_base O6.out j e.symm; omega)⟩ ((B5.out.trans (B6.out.mono hs5)).setCell (show x3.heap.size ≤ x4.heap.size from BO.out.size) _) (by simp only [World.setCell, Array.size_modify]; omega) A3.out).mono ?_; rintro e x7 ⟨v7, vt7, vs7, B1, rfl, hseg, hB1, ho, hl1, hl2, hb, hk⟩; have S7 := ak hseg; have O7 := ak ho; have B7 := ak hb; have HB1 : Aside0 (x5.heap.size ≤ B1) := ⟨by simp only [World.setCell, Array.size_modify] at hB1; omega⟩; clear hseg ho hb hk hl1 hl2 hm3 hf3 hB1; obtain ⟨A7t, c7t, e7⟩ := Kd.R_slice S7.out.ht; subst e7; obtain ⟨A7s, c7s, e7⟩ := Kd.R_slice S7.out.hs; subst e7; obtain ⟨A7, c7, e7⟩ := Kd.R_slice O7.out; subst e7; have hy0 : x7.cell? ⟨x4.heap.size, 0, none⟩ = some (.int .i64 a0_0) := (blk_cell S7.out.blk 0).trans rfl; have hy1 : x7.cell? ⟨x4.heap.size, 1, none⟩ = some (.int .i64 a0_1) := (blk_cell S7.out.blk 1).trans rfl; have hy2 : x7.cell? ⟨x4.heap.size, 2, none⟩ = some (.slice A7t t2.length c7t) := (blk_cell S7.out.blk 2).trans rfl; have hy3 : x7.cell? ⟨x4.heap.size, 3, none⟩ = some (.slice A7s s2.length c7s) := (blk_cell S7.out.blk 3).trans rfl)
     | (go_at_call 45; (with_reducible refine (impl_Segmented_own.calls a0_0 a0_1 A7t c7t t2 A7s c7s s2 y1 y2 y3 y4 x7 (Kd.R_reads' S7.out.ht).2.2 (Kd.R_reads' S7.out.ht).2.1 (Kd.R_reads' S7.out.hs).2.2 (Kd.R_reads' S7.out.hs).2.1 A4.out).mono ?_); rintro e x8 ⟨vt8, vs8, rfl, ho1, ho2, hb⟩; have T8 := ak ho1; have S8 := ak ho2; have B8 := ak hb; clear ho1 ho2 hb hy0 hy1 hy2 hy3; obtain ⟨A8t, c8t, e8⟩ := Kd.R_slice T8.out; subst e8; obtain ⟨A8s, c8s, e8⟩ := Kd.R_slice S8.out; subst e8; have h4l : b4 < x3.heap.size := blk_lt K4.out; have h7s : x3.heap.size ≤ x7.heap.size := B7.out.size; have K8 := ak (blk_below (show x7.heap[b4]? = _ from (B7.out.block b4 h4l).trans K4.out) B8.out); have hu0 := (blk_cell K8.out 0).trans rfl; have hu1 := (blk_cell K8.out 1).trans rfl; have hu2 := (blk_cell K8.out 2).trans rfl; have hu3 := (blk_cell K8.out 3).trans rfl; have hv0 := blk_frozen K8.out 0; have hv1 := blk_frozen K8.out 1; have hv2 := blk_frozen K8.out 2; have hv3 := blk_frozen K8.out 3))
  have hbb := HB.out
  have h3w : w.heap.size ≤ x3.heap.size := HB.out.size
  have h4w := G4.out
  have e5 := HB1.out
  have hx35 : x3.heap.size ≤ x5.heap.size := by have := B5.out.size; omega
  have hfar : ∀ j, j ≠ b4 → ((((x8.setCell ⟨b4, 0, none⟩ (.int .i64 y1)).setCell ⟨b4, 1, none⟩ (.int .i64 y2)).setCell ⟨b4, 2, none⟩ (.slice A8t y3.length c8t)).setCell ⟨b4, 3, none⟩ (.slice A8s y4.length c8s)).heap[j]? = x8.heap[j]? := fun j hj => by
   rw [Below.heap_setCell _ _ _ j (by show j ≠ b4; exact hj), Below.heap_setCell _ _ _ j (by show j ≠ b4; exact hj), Below.heap_setCell _ _ _ j (by show j ≠ b4; exact hj), Below.heap_setCell _ _ _ j (by show j ≠ b4; exact hj)]
  refine bodyPost_ret (results_ct rfl _ _ b4 28 #[.int .i64 y1, .int .i64 y2, .slice A8t y3.length c8t, .slice A8s y4.length c8s] (0, 0) _ rfl (by refine blk_put (cs := #[.int .i64 y1, .int .i64 y2, .slice A8t y3.length c8t, .slice none 0 0]) ?_ 3 _ rfl; refine blk_put (cs := #[.int .i64 y1, .int .i64 y2, .slice none 0 0, .slice none 0 0]) ?_ 2 _ rfl; refine blk_put (cs := #[.int .i64 y1, .int .i64 0, .slice none 0 0, .slice none 0 0]) ?_ 1 _ rfl; exact blk_put (cs := #[.int .i64 0, .int .i64 0, .slice none 0 0, .slice none 0 0]) K8.out 0 _ rfl) Try.underlying28 rfl (by kernel_rfl)) rfl ?_
  refine ⟨.slice A8t y3.length c8t, .slice A8s y4.length c8s, .slice A7 th.length c7, rfl, ?_, ?_, ?_, ?_⟩
  ·exact row_ok (row_move (Kd.R_lower T8.out (by omega)) (fun j hj => hfar j (by have := Kd.R_base T8.out j hj; omega))) (fun j hj => ⟨T8.out.1 j hj, fun e => by have h1 := Kd.R_base T8.out j hj; have h2 := Kd.R_lt O7.out j e.symm; omega⟩)
  ·exact row_ok (row_move (Kd.R_lower S8.out (by omega)) (fun j hj => hfar j (by have := Kd.R_base S8.out j hj; omega))) (fun j hj => ⟨S8.out.1 j hj, fun e => by have h1 := Kd.R_base S8.out j hj; have h2 := Kd.R_lt O7.out j e.symm; omega⟩)
  ·exact row_ok (row_move (Kd.R_lower (Kd.R_below O7.out B8.out) (by omega)) (fun j hj => hfar j (by have := Kd.R_base O7.out j hj; omega))) (fun j hj => ⟨fun e => by have h1 := Kd.R_base T8.out j e.symm; have h2 := Kd.R_lt O7.out j hj; omega, fun e => by have h1 := Kd.R_base S8.out j e.symm; have h2 := Kd.R_lt O7.out j hj; omega⟩)
  ·exact ((((below_then (below_then HB.out h3w (B7.out.mono (Nat.le_refl _))) (by omega) B8.out).setCell (by show w.heap.size ≤ b4; omega) _).setCell (by show w.heap.size ≤ b4; omega) _).setCell (by show w.heap.size ≤ b4; omega) _).setCell (by show w.heap.size ≤ b4; omega) _


/-! ### impl_PutEntry: function 21 -/
def impl_PutEntry.f (k : Nat) (a0_0 : Int) (a0_1 : Int) (l0_2 : List (S45)) (l0_3 : List (S45)) (a1_0 : ByteArray) (a1_1 : ByteArray) : Option (Int × Int × (List (S45)) × (List (S45)) × (List (S45)) × Bool) := (impl_GoodSegmented.f k a0_0 a0_1 l0_2 l0_3).bind fun t125 => (if t125 = true then ((impl_isEntry.f a1_0 a1_1).bind fun t126 => (if t126 = true then ((impl_Segmented_put.f k a0_0 a0_1 l0_2 l0_3 a1_0 a1_1).bind fun bt127 => (some (bt127.1, bt127.2.1, bt127.2.2.1, bt127.2.2.2.1, bt127.2.2.2.2, true))) else (some (0, 0, ([] : List (S45)), ([] : List (S45)), ([] : List (S45)), false)))) else (some (0, 0, ([] : List (S45)), ([] : List (S45)), ([] : List (S45)), false)))
theorem impl_PutEntry.mono : ∀ a0 a1 a2 a3 a4 a5 k, LeO (impl_PutEntry.f k a0 a1 a2 a3 a4 a5) (impl_PutEntry.f (k + 1) a0 a1 a2 a3 a4 a5) := by
 intro a0 a1 a2 a3 a4 a5 k
 unfold impl_PutEntry.f
 repeat' first
   | (with_reducible exact impl_GoodSegmented.mono _ _ _ _ _)
   | (with_reducible exact impl_Segmented_put.mono _ _ _ _ _ _ _)
   | (with_reducible exact LeO.refl _)
   | (with_reducible exact LeO.none _)
   | (with_reducible refine LeO.ite ?_ ?_)
   | (with_reducible refine LeO.bind ?_ (fun _ => ?_))
   | exact impl_GoodSegmented.mono _ _ _ _ _
   | exact impl_Segmented_put.mono _ _ _ _ _ _ _
   | exact LeO.none _
   | refine LeO.ite ?_ ?_
   | refine LeO.bind ?_ (fun _ => ?_)
set_option maxHeartbeats 8000000 in
set_option maxRecDepth 100000 in
theorem impl_PutEntry.calls (k : Nat) (a0_0 : Int) (a0_1 : Int) (A0_2 : Option Addr) (c0_2 : Nat) (l0_2 : List (S45)) (A0_3 : Option Addr) (c0_3 : Nat) (l0_3 : List (S45)) (a1_0 : ByteArray) (a1_1 : ByteArray) (r1 : Int) (r2 : Int) (r3 : List (S45)) (r4 : List (S45)) (r5 : List (S45)) (r6 : Bool) (w : World) (hr0_2 : Kd.C k45 w A0_2 l0_2.length l0_2) (hc0_2 : l0_2.length ≤ c0_2) (hr0_3 : Kd.C k45 w A0_3 l0_3.length l0_3) (hc0_3 : l0_3.length ≤ c0_3) (h : impl_PutEntry.f k a0_0 a0_1 l0_2 l0_3 a1_0 a1_1 = some (r1, r2, r3, r4, r5, r6)) :
  Calls Try.prog 21 #[.agg #[.int .i64 a0_0, .int .i64 a0_1, .slice A0_2 l0_2.length c0_2, .slice A0_3 l0_3.length c0_3], .agg #[.string a1_0, .string a1_1]] w fun e w' => ∃ v2_ v3_ v4_ : Value, e = .returned (.tuple #[.agg #[.int .i64 r1, .int .i64 r2, v2_, v3_], v4_, .bool r6]) ∧ Kd.R k45 45 w' w.heap.size (fun k_ => some k_ ≠ (v3_ : Value).ownBlock ∧ some k_ ≠ (v4_ : Value).ownBlock) v2_ r3 ∧ Kd.R k45 45 w' w.heap.size (fun k_ => some k_ ≠ (v2_ : Value).ownBlock ∧ some k_ ≠ (v4_ : Value).ownBlock) v3_ r4 ∧ Kd.R k45 45 w' w.heap.size (fun k_ => some k_ ≠ (v2_ : Value).ownBlock ∧ some k_ ≠ (v3_ : Value).ownBlock) v4_ r5 ∧ Below w.heap.size w w' := by
 have hu28 := Try.underlying28
 have hu45 := Try.underlying45
 have HR0_2 := ak hr0_2
 have HC0_2 := ak hc0_2
 clear hr0_2 hc0_2
 have HR0_3 := ak hr0_3
 have HC0_3 := ak hc0_3
 clear hr0_3 hc0_3
 have HB := ak (Below.refl w.heap.size w)
 have H : ((impl_GoodSegmented.f k a0_0 a0_1 l0_2 l0_3).bind fun t125 => (if t125 = true then ((impl_isEntry.f a1_0 a1_1).bind fun t126 => (if t126 = true then ((impl_Segmented_put.f k a0_0 a0_1 l0_2 l0_3 a1_0 a1_1).bind fun bt127 => (some (bt127.1, bt127.2.1, bt127.2.2.1, bt127.2.2.2.1, bt127.2.2.2.2, true))) else (some (0, 0, ([] : List (S45)), ([] : List (S45)), ([] : List (S45)), false)))) else (some (0, 0, ([] : List (S45)), ([] : List (S45)), ([] : List (S45)), false)))) = some (r1, r2, r3, r4, r5, r6) := h
 clear h
 replace H := Option.bind_eq_some_iff.mp H
 obtain ⟨t125, A30, H⟩ := H
 try dsimp only at H
 have A3 := ak A30
 clear A30
 by_cases c4 : t125 = true
 ·subst c4
  have H1 : ((impl_isEntry.f a1_0 a1_1).bind fun t126 => (if t126 = true then ((impl_Segmented_put.f k a0_0 a0_1 l0_2 l0_3 a1_0 a1_1).bind fun bt127 => (some (bt127.1, bt127.2.1, bt127.2.2.1, bt127.2.2.2.1, bt127.2.2.2.2, true))) else (some (0, 0, ([] : List (S45)), ([] : List (S45)), ([] : List (S45)), false)))) = some (r1, r2, r3, r4, r5, r6) := by rw [if_pos rfl] at H; exact H
  clear H
  have H := H1
  clear H1
  replace H := Option.bind_eq_some_iff.mp H
  obtain ⟨t126, A50, H⟩ := H
  try dsimp only at H
  have A5 := ak A50
  clear A50
  by_cases c6 : t126 = true
  ·subst c6
   have H1 : ((impl_Segmented_put.f k a0_0 a0_1 l0_2 l0_3 a1_0 a1_1).bind fun bt127 => (some (bt127.1, bt127.2.1, bt127.2.2.1, bt127.2.2.2.1, bt127.2.2.2.2, true))) = some (r1, r2, r3, r4, r5, r6) := by rw [if_pos rfl] at H; exact H
   clear H
   have H := H1
   clear H1
   replace H := Option.bind_eq_some_iff.mp H
   obtain ⟨⟨t127, t128, t129, t132, t135⟩, A70, H⟩ := H
   try dsimp only at H
   have A7 := ak A70
   clear A70
   simp only [Option.some.injEq, Prod.mk.injEq] at H
   obtain ⟨rfl, rfl, rfl, rfl, rfl, rfl⟩ := H
   go_enter Try.func21, Try.ntmps21
   go_wp2_with (first | (refine bE 2 #[.int .i64 a0_0, .int .i64 a0_1, .slice A0_2 l0_2.length c0_2, .slice A0_3 l0_3.length c0_3] 28 ?_; intro gb122 hg w8 hbox hb; have BK122 := ak hbox; have GW122 := gs hg (bl HB.out); have GE122 := gs hg (bl HB.out); replace HB := ak (below_step (bl HB.out) hb); clear hb hbox hg) | (refine bE 3 #[.string a1_0, .string a1_1] 45 ?_; intro gb123 hg w9 hbox hb; have BK123 := ak hbox; have GW123 := gs hg (bl1 HB.out GE122.out); have GE123 := gs hg (bl1 HB.out GE122.out); replace HB := ak (below_step (bl1 HB.out GE122.out) hb); have NB122_123 := nl hg BK122.out; have NB123_122 := ng hg BK122.out; replace BK122 := ak (blk_below (bk BK122.out) hb); clear hb hbox hg) | (refine bE 4 #[.int .i64 0, .int .i64 0, .slice none 0 0, .slice none 0 0] 28 ?_; intro gb124 hg w10 hbox hb; have BK124 := ak hbox; have GW124 := gs hg (bl2 HB.out GE122.out GE123.out); have GE124 := gs hg (bl2 HB.out GE122.out GE123.out); replace HB := ak (below_step (bl2 HB.out GE122.out GE123.out) hb); have NB122_124 := nl hg BK122.out; have NB124_122 := ng hg BK122.out; replace BK122 := ak (blk_below (bk BK122.out) hb); have NB123_124 := nl hg BK123.out; have NB124_123 := ng hg BK123.out; replace BK123 := ak (blk_below (bk BK123.out) hb); clear hb hbox hg; have hnb11 := NB122_123.out; have hnc11 := NB123_122.out; have hnb12 := NB122_124.out; have hnc12 := NB124_122.out; obtain ⟨hcz13_0, hcz13_1, hcz13_2, hcz13_3, hfz13_0, hfz13_1, hfz13_2, hfz13_3⟩ := b4 BK122.out) | (refine gL 22 Try.func22 (some 10) #[.agg #[.int .i64 a0_0, .int .i64 a0_1, .slice A0_2 l0_2.length c0_2, .slice A0_3 l0_3.length c0_3]] ?_; (with_reducible refine (impl_GoodSegmented.calls k a0_0 a0_1 _ _ l0_2 _ _ l0_3 true _ ?side1 ?side2 ?side3 ?side4 A3.out).mono ?_); (case side1 => exact kc (Kd.C_below HR0_2.out HB.out)); (case side2 => exact HC0_2.out); (case side3 => exact kc (Kd.C_below HR0_3.out HB.out)); (case side4 => exact HC0_3.out); rintro e w14 ⟨rfl, hb⟩; refine ⟨_, rfl, ?_⟩; replace BK122 := ak (blk_below (bk BK122.out) hb); replace BK123 := ak (blk_below (bk BK123.out) hb); replace BK124 := ak (blk_below (bk BK124.out) hb); replace HB := ak (below_step (bl3 HB.out GE122.out GE123.out GE124.out) hb); clear hb; have hnb15 := NB123_124.out; have hnc15 := NB124_123.out; obtain ⟨hcz16_0, hcz16_1, hfz16_0, hfz16_1⟩ := b2 BK123.out) | (go_at_call 51; (with_reducible refine (impl_isEntry.calls a1_0 a1_1 true _ A5.out).mono ?_); rintro e w17 ⟨rfl, hb⟩; replace BK122 := ak (blk_below (bk BK122.out) hb); replace BK123 := ak (blk_below (bk BK123.out) hb); replace BK124 := ak (blk_below (bk BK124.out) hb); replace HB := ak (below_step (bl3 HB.out GE122.out GE123.out GE124.out) hb); clear hb; obtain ⟨hcz18_0, hcz18_1, hcz18_2, hcz18_3, hfz18_0, hfz18_1, hfz18_2, hfz18_3⟩ := b4 BK122.out; obtain ⟨hcz19_0, hcz19_1, hfz19_0, hfz19_1⟩ := b2 BK123.out) | (refine gL 52 Try.func52 (some 21) #[.agg #[.int .i64 a0_0, .int .i64 a0_1, .slice A0_2 l0_2.length c0_2, .slice A0_3 l0_3.length c0_3], .agg #[.string a1_0, .string a1_1]] ?_; (with_reducible refine (impl_Segmented_put.calls k a0_0 a0_1 _ _ l0_2 _ _ l0_3 a1_0 a1_1 t127 t128 t129 t132 t135 _ ?side1 ?side2 ?side3 ?side4 A7.out).mono ?_); (case side1 => exact kc (Kd.C_below HR0_2.out HB.out)); (case side2 => exact HC0_2.out); (case side3 => exact kc (Kd.C_below HR0_3.out HB.out)); (case side4 => exact HC0_3.out); rintro e w20 ⟨v130, v133, v136, rfl, ho0, ho1, ho2, hb⟩; refine ⟨_, rfl, ?_⟩; have HO131 := ak (Kd.R_lower (Kd.R_newB ho0 (bk BK123.out)) (below_size (bl3 HB.out GE122.out GE123.out GE124.out))); have HO134 := ak (Kd.R_lower (Kd.R_newB ho1 (bk BK123.out)) (below_size (bl3 HB.out GE122.out GE123.out GE124.out))); have HO137 := ak (Kd.R_lower (Kd.R_newB ho2 (bk BK123.out)) (below_size (bl3 HB.out GE122.out GE123.out GE124.out))); replace BK122 := ak (blk_below (bk BK122.out) hb); replace BK123 := ak (blk_below (bk BK123.out) hb); replace BK124 := ak (blk_below (bk BK124.out) hb); replace HB := ak (below_step (bl3 HB.out GE122.out GE123.out GE124.out) hb); clear hb ho0 ho1 ho2) | (refine bE 7 #[.int .i64 0, .int .i64 0, .slice none 0 0, .slice none 0 0] 28 ?_; intro gb138 hg w21 hbox hb; replace HO131 := ak (Kd.R_below (kr HO131.out) hb); replace HO134 := ak (Kd.R_below (kr HO134.out) hb); replace HO137 := ak (Kd.R_below (kr HO137.out) hb); have BK138 := ak hbox; have GW138 := gs hg (bl3 HB.out GE122.out GE123.out GE124.out); have GE138 := gs hg (bl3 HB.out GE122.out GE123.out GE124.out); replace HB := ak (below_step (bl3 HB.out GE122.out GE123.out GE124.out) hb); have NB122_138 := nl hg BK122.out; have NB138_122 := ng hg BK122.out; replace BK122 := ak (blk_below (bk BK122.out) hb); have NB123_138 := nl hg BK123.out; have NB138_123 := ng hg BK123.out; replace BK123 := ak (blk_below (bk BK123.out) hb); have NB124_138 := nl hg BK124.out; have NB138_124 := ng hg BK124.out; replace BK124 := ak (blk_below (bk BK124.out) hb); clear hb hbox hg; have hnb22 := NB138_122.out; have hnc22 := NB122_138.out; have hnb23 := NB138_123.out; have hnc23 := NB123_138.out; have hnb24 := NB138_124.out; have hnc24 := NB124_138.out; obtain ⟨hcz25_0, hcz25_1, hcz25_2, hcz25_3, hfz25_0, hfz25_1, hfz25_2, hfz25_3⟩ := b4 BK138.out; obtain ⟨Ao26, co26, eo26⟩ := Kd.R_slice HO131.out; subst eo26; obtain ⟨Ao27, co27, eo27⟩ := Kd.R_slice HO134.out; subst eo27; obtain ⟨hcz28_0, hcz28_1, hcz28_2, hcz28_3, hfz28_0, hfz28_1, hfz28_2, hfz28_3⟩ := b4 BK124.out))
   refine bodyPost_ret (results_ctt rfl _ _ gb124 28 #[.int .i64 t127, .int .i64 t128, .slice Ao26 t129.length co26, .slice Ao27 t132.length co27] (0, 0) _ rfl (bq BK124.out) Try.underlying28 rfl (by kernel_rfl)) rfl ?_
   exact ⟨_, _, _, by first | rfl | (simp [errW_none, errW_some] <;> rfl) | (simp [*, errW_none, errW_some] <;> rfl), by (with_reducible repeat (first | apply Kd.R_alloc | apply Kd.R_drewN | apply Kd.R_drew)); exact Kd.R_mono (Kd.R_far (p := ⟨gb124, 3, none⟩) (Kd.R_far (p := ⟨gb124, 2, none⟩) (Kd.R_far (p := ⟨gb124, 1, none⟩) (Kd.R_far (p := ⟨gb124, 0, none⟩) (Kd.R_far (p := ⟨gb138, 3, none⟩) (Kd.R_far (p := ⟨gb138, 2, none⟩) (Kd.R_far (p := ⟨gb138, 1, none⟩) (Kd.R_far (p := ⟨gb138, 0, none⟩) (Kd.R_types (Kd.R_types HO131.out BK138.out (by decide)) BK124.out (by decide)) (fun _ hk => hk.1.2) (.int .i64 t127)) (fun _ hk => hk.1.2) (.int .i64 t128)) (fun _ hk => hk.1.2) (.slice Ao26 t129.length co26)) (fun _ hk => hk.1.2) (.slice Ao27 t132.length co27)) (fun _ hk => hk.2) (.int .i64 t127)) (fun _ hk => hk.2) (.int .i64 t128)) (fun _ hk => hk.2) (.slice Ao26 t129.length co26)) (fun _ hk => hk.2) (.slice Ao27 t132.length co27)) (fun _ hk => ⟨hk.1.1.1.1, hk.1.1.1.2⟩), by (with_reducible repeat (first | apply Kd.R_alloc | apply Kd.R_drewN | apply Kd.R_drew)); exact Kd.R_mono (Kd.R_far (p := ⟨gb124, 3, none⟩) (Kd.R_far (p := ⟨gb124, 2, none⟩) (Kd.R_far (p := ⟨gb124, 1, none⟩) (Kd.R_far (p := ⟨gb124, 0, none⟩) (Kd.R_far (p := ⟨gb138, 3, none⟩) (Kd.R_far (p := ⟨gb138, 2, none⟩) (Kd.R_far (p := ⟨gb138, 1, none⟩) (Kd.R_far (p := ⟨gb138, 0, none⟩) (Kd.R_types (Kd.R_types HO134.out BK138.out (by decide)) BK124.out (by decide)) (fun _ hk => hk.1.2) (.int .i64 t127)) (fun _ hk => hk.1.2) (.int .i64 t128)) (fun _ hk => hk.1.2) (.slice Ao26 t129.length co26)) (fun _ hk => hk.1.2) (.slice Ao27 t132.length co27)) (fun _ hk => hk.2) (.int .i64 t127)) (fun _ hk => hk.2) (.int .i64 t128)) (fun _ hk => hk.2) (.slice Ao26 t129.length co26)) (fun _ hk => hk.2) (.slice Ao27 t132.length co27)) (fun _ hk => ⟨hk.1.1.1.1, hk.1.1.1.2⟩), by (with_reducible repeat (first | apply Kd.R_alloc | apply Kd.R_drewN | apply Kd.R_drew)); exact Kd.R_mono (Kd.R_far (p := ⟨gb124, 3, none⟩) (Kd.R_far (p := ⟨gb124, 2, none⟩) (Kd.R_far (p := ⟨gb124, 1, none⟩) (Kd.R_far (p := ⟨gb124, 0, none⟩) (Kd.R_far (p := ⟨gb138, 3, none⟩) (Kd.R_far (p := ⟨gb138, 2, none⟩) (Kd.R_far (p := ⟨gb138, 1, none⟩) (Kd.R_far (p := ⟨gb138, 0, none⟩) (Kd.R_types (Kd.R_types HO137.out BK138.out (by decide)) BK124.out (by decide)) (fun _ hk => hk.1.2) (.int .i64 t127)) (fun _ hk => hk.1.2) (.int .i64 t128)) (fun _ hk => hk.1.2) (.slice Ao26 t129.length co26)) (fun _ hk => hk.1.2) (.slice Ao27 t132.length co27)) (fun _ hk => hk.2) (.int .i64 t127)) (fun _ hk => hk.2) (.int .i64 t128)) (fun _ hk => hk.2) (.slice Ao26 t129.length co26)) (fun _ hk => hk.2) (.slice Ao27 t132.length co27)) (fun _ hk => ⟨hk.1.1.1.1, hk.1.1.1.2⟩), bl4 HB.out GE122.out GE123.out GE124.out GE138.out⟩
  ·replace c6 := Bool.eq_false_iff.mpr c6
   subst c6
   have H1 : (some (0, 0, ([] : List (S45)), ([] : List (S45)), ([] : List (S45)), false)) = some (r1, r2, r3, r4, r5, r6) := by rw [if_neg (show ¬ (false = true) by decide)] at H; exact H
   clear H
   have H := H1
   clear H1
   simp only [Option.some.injEq, Prod.mk.injEq] at H
   obtain ⟨rfl, rfl, rfl, rfl, rfl, rfl⟩ := H
   go_enter Try.func21, Try.ntmps21
   go_wp2_with (first | (refine bE 2 #[.int .i64 a0_0, .int .i64 a0_1, .slice A0_2 l0_2.length c0_2, .slice A0_3 l0_3.length c0_3] 28 ?_; intro gb122 hg w29 hbox hb; have BK122 := ak hbox; have GW122 := gs hg (bl HB.out); have GE122 := gs hg (bl HB.out); replace HB := ak (below_step (bl HB.out) hb); clear hb hbox hg) | (refine bE 3 #[.string a1_0, .string a1_1] 45 ?_; intro gb123 hg w30 hbox hb; have BK123 := ak hbox; have GW123 := gs hg (bl1 HB.out GE122.out); have GE123 := gs hg (bl1 HB.out GE122.out); replace HB := ak (below_step (bl1 HB.out GE122.out) hb); have NB122_123 := nl hg BK122.out; have NB123_122 := ng hg BK122.out; replace BK122 := ak (blk_below (bk BK122.out) hb); clear hb hbox hg) | (refine bE 4 #[.int .i64 0, .int .i64 0, .slice none 0 0, .slice none 0 0] 28 ?_; intro gb124 hg w31 hbox hb; have BK124 := ak hbox; have GW124 := gs hg (bl2 HB.out GE122.out GE123.out); have GE124 := gs hg (bl2 HB.out GE122.out GE123.out); replace HB := ak (below_step (bl2 HB.out GE122.out GE123.out) hb); have NB122_124 := nl hg BK122.out; have NB124_122 := ng hg BK122.out; replace BK122 := ak (blk_below (bk BK122.out) hb); have NB123_124 := nl hg BK123.out; have NB124_123 := ng hg BK123.out; replace BK123 := ak (blk_below (bk BK123.out) hb); clear hb hbox hg; have hnb32 := NB122_123.out; have hnc32 := NB123_122.out; have hnb33 := NB122_124.out; have hnc33 := NB124_122.out; obtain ⟨hcz34_0, hcz34_1, hcz34_2, hcz34_3, hfz34_0, hfz34_1, hfz34_2, hfz34_3⟩ := b4 BK122.out) | (refine gL 22 Try.func22 (some 10) #[.agg #[.int .i64 a0_0, .int .i64 a0_1, .slice A0_2 l0_2.length c0_2, .slice A0_3 l0_3.length c0_3]] ?_; (with_reducible refine (impl_GoodSegmented.calls k a0_0 a0_1 _ _ l0_2 _ _ l0_3 true _ ?side1 ?side2 ?side3 ?side4 A3.out).mono ?_); (case side1 => exact kc (Kd.C_below HR0_2.out HB.out)); (case side2 => exact HC0_2.out); (case side3 => exact kc (Kd.C_below HR0_3.out HB.out)); (case side4 => exact HC0_3.out); rintro e w35 ⟨rfl, hb⟩; refine ⟨_, rfl, ?_⟩; replace BK122 := ak (blk_below (bk BK122.out) hb); replace BK123 := ak (blk_below (bk BK123.out) hb); replace BK124 := ak (blk_below (bk BK124.out) hb); replace HB := ak (below_step (bl3 HB.out GE122.out GE123.out GE124.out) hb); clear hb; have hnb36 := NB123_124.out; have hnc36 := NB124_123.out; obtain ⟨hcz37_0, hcz37_1, hfz37_0, hfz37_1⟩ := b2 BK123.out) | (go_at_call 51; (with_reducible refine (impl_isEntry.calls a1_0 a1_1 false _ A5.out).mono ?_); rintro e w38 ⟨rfl, hb⟩; replace BK122 := ak (blk_below (bk BK122.out) hb); replace BK123 := ak (blk_below (bk BK123.out) hb); replace BK124 := ak (blk_below (bk BK124.out) hb); replace HB := ak (below_step (bl3 HB.out GE122.out GE123.out GE124.out) hb); clear hb; obtain ⟨hcz39_0, hcz39_1, hcz39_2, hcz39_3, hfz39_0, hfz39_1, hfz39_2, hfz39_3⟩ := b4 BK124.out))
   refine bodyPost_ret (results_ctt rfl _ _ gb124 28 #[.int .i64 0, .int .i64 0, .slice none 0 0, .slice none 0 0] (0, 0) _ rfl (bq BK124.out) Try.underlying28 rfl (by kernel_rfl)) rfl ?_
   exact ⟨_, _, _, by first | rfl | (simp [errW_none, errW_some] <;> rfl) | (simp [*, errW_none, errW_some] <;> rfl), by first | exact Kd.R_nil _ _ _ _ _ | exact Kd.N_nil _ _ _ _ _ | exact Kd.V_nil _ _ _ _ _ | exact Kd.Q_nil _ _ _ _ _ | exact Kd.S_nil _ _ _ _ _, by first | exact Kd.R_nil _ _ _ _ _ | exact Kd.N_nil _ _ _ _ _ | exact Kd.V_nil _ _ _ _ _ | exact Kd.Q_nil _ _ _ _ _ | exact Kd.S_nil _ _ _ _ _, by first | exact Kd.R_nil _ _ _ _ _ | exact Kd.N_nil _ _ _ _ _ | exact Kd.V_nil _ _ _ _ _ | exact Kd.Q_nil _ _ _ _ _ | exact Kd.S_nil _ _ _ _ _, bl3 HB.out GE122.out GE123.out GE124.out⟩
 ·replace c4 := Bool.eq_false_iff.mpr c4
  subst c4
  have H1 : (some (0, 0, ([] : List (S45)), ([] : List (S45)), ([] : List (S45)), false)) = some (r1, r2, r3, r4, r5, r6) := by rw [if_neg (show ¬ (false = true) by decide)] at H; exact H
  clear H
  have H := H1
  clear H1
  simp only [Option.some.injEq, Prod.mk.injEq] at H
  obtain ⟨rfl, rfl, rfl, rfl, rfl, rfl⟩ := H
  go_enter Try.func21, Try.ntmps21
  go_wp2_with (first | (refine bE 2 #[.int .i64 a0_0, .int .i64 a0_1, .slice A0_2 l0_2.length c0_2, .slice A0_3 l0_3.length c0_3] 28 ?_; intro gb122 hg w40 hbox hb; have BK122 := ak hbox; have GW122 := gs hg (bl HB.out); have GE122 := gs hg (bl HB.out); replace HB := ak (below_step (bl HB.out) hb); clear hb hbox hg) | (refine bE 3 #[.string a1_0, .string a1_1] 45 ?_; intro gb123 hg w41 hbox hb; have BK123 := ak hbox; have GW123 := gs hg (bl1 HB.out GE122.out); have GE123 := gs hg (bl1 HB.out GE122.out); replace HB := ak (below_step (bl1 HB.out GE122.out) hb); have NB122_123 := nl hg BK122.out; have NB123_122 := ng hg BK122.out; replace BK122 := ak (blk_below (bk BK122.out) hb); clear hb hbox hg) | (refine bE 4 #[.int .i64 0, .int .i64 0, .slice none 0 0, .slice none 0 0] 28 ?_; intro gb124 hg w42 hbox hb; have BK124 := ak hbox; have GW124 := gs hg (bl2 HB.out GE122.out GE123.out); have GE124 := gs hg (bl2 HB.out GE122.out GE123.out); replace HB := ak (below_step (bl2 HB.out GE122.out GE123.out) hb); have NB122_124 := nl hg BK122.out; have NB124_122 := ng hg BK122.out; replace BK122 := ak (blk_below (bk BK122.out) hb); have NB123_124 := nl hg BK123.out; have NB124_123 := ng hg BK123.out; replace BK123 := ak (blk_below (bk BK123.out) hb); clear hb hbox hg; have hnb43 := NB122_123.out; have hnc43 := NB123_122.out; have hnb44 := NB122_124.out; have hnc44 := NB124_122.out; obtain ⟨hcz45_0, hcz45_1, hcz45_2, hcz45_3, hfz45_0, hfz45_1, hfz45_2, hfz45_3⟩ := b4 BK122.out) | (refine gL 22 Try.func22 (some 10) #[.agg #[.int .i64 a0_0, .int .i64 a0_1, .slice A0_2 l0_2.length c0_2, .slice A0_3 l0_3.length c0_3]] ?_; (with_reducible refine (impl_GoodSegmented.calls k a0_0 a0_1 _ _ l0_2 _ _ l0_3 false _ ?side1 ?side2 ?side3 ?side4 A3.out).mono ?_); (case side1 => exact kc (Kd.C_below HR0_2.out HB.out)); (case side2 => exact HC0_2.out); (case side3 => exact kc (Kd.C_below HR0_3.out HB.out)); (case side4 => exact HC0_3.out); rintro e w46 ⟨rfl, hb⟩; refine ⟨_, rfl, ?_⟩; replace BK122 := ak (blk_below (bk BK122.out) hb); replace BK123 := ak (blk_below (bk BK123.out) hb); replace BK124 := ak (blk_below (bk BK124.out) hb); replace HB := ak (below_step (bl3 HB.out GE122.out GE123.out GE124.out) hb); clear hb; have hnb47 := NB124_123.out; have hnc47 := NB123_124.out; obtain ⟨hcz48_0, hcz48_1, hcz48_2, hcz48_3, hfz48_0, hfz48_1, hfz48_2, hfz48_3⟩ := b4 BK124.out))
  refine bodyPost_ret (results_ctt rfl _ _ gb124 28 #[.int .i64 0, .int .i64 0, .slice none 0 0, .slice none 0 0] (0, 0) _ rfl (bq BK124.out) Try.underlying28 rfl (by kernel_rfl)) rfl ?_
  exact ⟨_, _, _, by first | rfl | (simp [errW_none, errW_some] <;> rfl) | (simp [*, errW_none, errW_some] <;> rfl), by first | exact Kd.R_nil _ _ _ _ _ | exact Kd.N_nil _ _ _ _ _ | exact Kd.V_nil _ _ _ _ _ | exact Kd.Q_nil _ _ _ _ _ | exact Kd.S_nil _ _ _ _ _, by first | exact Kd.R_nil _ _ _ _ _ | exact Kd.N_nil _ _ _ _ _ | exact Kd.V_nil _ _ _ _ _ | exact Kd.Q_nil _ _ _ _ _ | exact Kd.S_nil _ _ _ _ _, by first | exact Kd.R_nil _ _ _ _ _ | exact Kd.N_nil _ _ _ _ _ | exact Kd.V_nil _ _ _ _ _ | exact Kd.Q_nil _ _ _ _ _ | exact Kd.S_nil _ _ _ _ _, bl3 HB.out GE122.out GE123.out GE124.out⟩

/-! ### spec_l12At: function 43 -/
def spec_l12At.l0 : Nat → ByteArray → List (S45) → Int → Int → Option (Int)
 | 0, _, _, _, _ => none
 | k + 1, x1, x7, x8, x9 => if x9 < x8 then (if 0 ≤ x9 then (if x9 < (x7.length : Int) then (if ((rd_T45 x7 x9).f0).toList = x1.toList then (some x9) else (spec_l12At.l0 k x1 x7 x8 (wrap64 (x9 + 1)))) else (none)) else (none)) else (some (-1))
def spec_l12At.f (k : Nat) (l0 : List (S45)) (a1 : ByteArray) : Option (Int) := spec_l12At.l0 k a1 l0 (l0.length : Int) 0
theorem spec_l12At.mono_l : ∀ k, (∀ y0 y1 y2 y3, LeO (spec_l12At.l0 k y0 y1 y2 y3) (spec_l12At.l0 (k + 1) y0 y1 y2 y3))
 | 0 => fun _ _ _ _ r h => by simp [spec_l12At.l0] at h
 | k + 1 => by
  have ih0 := spec_l12At.mono_l k
  ·intro y0 y1 y2 y3
   unfold spec_l12At.l0
   repeat' first
   | (with_reducible exact ih0 _ _ _ _)
   | (with_reducible exact LeO.refl _)
   | (with_reducible exact LeO.none _)
   | (with_reducible refine LeO.ite ?_ ?_)
   | (with_reducible refine LeO.bind ?_ (fun _ => ?_))
   | exact ih0 _ _ _ _
   | exact LeO.none _
   | refine LeO.ite ?_ ?_
   | refine LeO.bind ?_ (fun _ => ?_)
theorem spec_l12At.mono : ∀ a0 a1 k, LeO (spec_l12At.f k a0 a1) (spec_l12At.f (k + 1) a0 a1) := by
 intro a0 a1 k
 have ih0 := spec_l12At.mono_l k
 unfold spec_l12At.f
 repeat' first
   | (with_reducible exact ih0 _ _ _ _)
   | (with_reducible exact LeO.refl _)
   | (with_reducible exact LeO.none _)
   | (with_reducible refine LeO.ite ?_ ?_)
   | (with_reducible refine LeO.bind ?_ (fun _ => ?_))
   | exact ih0 _ _ _ _
   | exact LeO.none _
   | refine LeO.ite ?_ ?_
   | refine LeO.bind ?_ (fun _ => ?_)
set_option maxHeartbeats 8000000 in
set_option maxRecDepth 100000 in
theorem spec_l12At.calls (k : Nat) (A0 : Option Addr) (c0 : Nat) (l0 : List (S45)) (a1 : ByteArray) (r : Int) (w : World) (hr0 : Kd.C k45 w A0 l0.length l0) (hc0 : l0.length ≤ c0) (h : spec_l12At.f k l0 a1 = some r) :
  Calls Try.prog 43 #[.slice A0 l0.length c0, .string a1] w fun e w' => e = .returned (.int .i64 r) ∧ Below w.heap.size w w' := by
 have hu45 := Try.underlying45
 have HR0 := ak hr0
 have HC0 := ak hc0
 clear hr0 hc0
 have HB := ak (Below.refl w.heap.size w)
 have H : (spec_l12At.l0 k a1 l0 (l0.length : Int) 0) = some r := h
 clear h
 have H' := ak H
 clear H
 go_enter Try.func43, Try.ntmps43
 go_wp2
 go_loopg [9] k (fun kq v9 w' => ∃ (x9_1 : Int), v9 = .int .i64 x9_1 ∧ Aside0 (spec_l12At.l0 kq a1 l0 (l0.length : Int) x9_1 = some r) ∧ Aside0 (kq ≤ k) ∧ Aside0 (Below w.heap.size w w'))
 case atStart => exact ⟨(0), (by first | rfl | (simp; done) | (simp [*]; done)), H', ⟨Nat.le_refl _⟩, ⟨bl HB.out⟩⟩
 case round =>
  clear H'
  try clear p2
  obtain ⟨x9_1, rfl, HA, HK1, HB⟩ := hrel
  cases gk with
  | zero => exact absurd HA.out (by simp [spec_l12At.l0])
  | succ k1 =>
   have H := HA.out
   clear HA
   simp only [spec_l12At.l0] at H
   by_cases c3 : x9_1 < (l0.length : Int)
   ·rw [if_pos c3] at H
    have c3b0 : decide (x9_1 < (l0.length : Int)) = true := decide_eq_true c3
    clear c3
    by_cases c4 : 0 ≤ x9_1
    ·rw [if_pos c4] at H
     have c4b0 : decide (0 ≤ x9_1) = true := decide_eq_true c4
     clear c4
     by_cases c5 : x9_1 < (l0.length : Int)
     ·rw [if_pos c5] at H
      have c5b0 : decide (x9_1 < (l0.length : Int)) = true := decide_eq_true c5
      clear c5
      by_cases c6 : ((rd_T45 l0 x9_1).f0).toList = a1.toList
      ·rw [if_pos c6] at H
       have c6b0 : (((rd_T45 l0 x9_1).f0).toList == a1.toList) = true := beq_iff_eq.mpr c6
       have c6b1 : (((rd_T45 l0 x9_1).f0).toList != a1.toList) = false := bne_eq_false_iff_eq.mpr c6
       clear c6
       obtain rfl := Option.some.inj H
       have p139 : 0 ≤ (x9_1 : Int) := od
       have q139 : x9_1 < (l0.length : Int) := od
       obtain ⟨ad139, e139, hx139_0, hx139_1⟩ := at_T45 HR0.out x9_1 p139 q139
       cases e139
       replace hx139_0 := (HB.out.cell (World.block_lt_of_cell? w _ hx139_0)).trans hx139_0
       replace hx139_1 := (HB.out.cell (World.block_lt_of_cell? w _ hx139_1)).trans hx139_1
       replace p139 := eq_true p139
       replace q139 := eq_true q139
       go_wp2_with (first | (refine bE 6 #[.string (⟨#[]⟩ : ByteArray), .string (⟨#[]⟩ : ByteArray)] 45 ?_; intro gb140 hg w7 hbox hb; have BK140 := ak hbox; have GW140 := gs hg (bl HB.out); have GE140 := gs hg (bl HB.out); replace HB := ak (below_step (bl HB.out) hb); clear hb hbox hg; obtain ⟨hcz8_0, hcz8_1, hfz8_0, hfz8_1⟩ := b2 BK140.out))
       go_ret
       exact ⟨by first | rfl | (simp [errW_none, errW_some] <;> rfl) | (simp [*, errW_none, errW_some] <;> rfl), bl1 HB.out GE140.out⟩
      ·rw [if_neg c6] at H
       have c6b0 : (((rd_T45 l0 x9_1).f0).toList == a1.toList) = false := beq_eq_false_iff_ne.mpr c6
       have c6b1 : (((rd_T45 l0 x9_1).f0).toList != a1.toList) = true := bne_iff_ne.mpr c6
       have H' := ak H
       clear H
       have p139 : 0 ≤ (x9_1 : Int) := od
       have q139 : x9_1 < (l0.length : Int) := od
       obtain ⟨ad139, e139, hx139_0, hx139_1⟩ := at_T45 HR0.out x9_1 p139 q139
       cases e139
       replace hx139_0 := (HB.out.cell (World.block_lt_of_cell? w _ hx139_0)).trans hx139_0
       replace hx139_1 := (HB.out.cell (World.block_lt_of_cell? w _ hx139_1)).trans hx139_1
       replace p139 := eq_true p139
       replace q139 := eq_true q139
       go_wp2_with (first | (refine bE 6 #[.string (⟨#[]⟩ : ByteArray), .string (⟨#[]⟩ : ByteArray)] 45 ?_; intro gb140 hg w9 hbox hb; have BK140 := ak hbox; have GW140 := gs hg (bl HB.out); have GE140 := gs hg (bl HB.out); replace HB := ak (below_step (bl HB.out) hb); clear hb hbox hg; obtain ⟨hcz10_0, hcz10_1, hfz10_0, hfz10_1⟩ := b2 BK140.out))
       go_roundg k1
       case measure => have := HK1.out; omega
       case rel => exact ⟨(wrap64 (x9_1 + 1)), (by first | rfl | (simp; done) | (simp [*]; done)), H', ⟨by have := HK1.out; omega⟩, ⟨bl1 HB.out GE140.out⟩⟩
     ·rw [if_neg c5] at H
      exact absurd H (by simp)
    ·rw [if_neg c4] at H
     exact absurd H (by simp)
   ·rw [if_neg c3] at H
    have c3b0 : decide (x9_1 < (l0.length : Int)) = false := decide_eq_false c3
    clear c3
    obtain rfl := Option.some.inj H
    go_wp2
    go_ret
    exact ⟨by first | rfl | (simp [errW_none, errW_some] <;> rfl) | (simp [*, errW_none, errW_some] <;> rfl), bl HB.out⟩

/-! ### spec_l1In: function 79 -/
def spec_l1In.f (a0 : Int) (a1 : Int) (a2 : Int) : Option (Bool) := if a0 ≥ a1 then (some (decide (a0 ≤ a2))) else (some false)
set_option maxHeartbeats 8000000 in
set_option maxRecDepth 100000 in
theorem spec_l1In.calls (a0 : Int) (a1 : Int) (a2 : Int) (r : Bool) (w : World) (h : spec_l1In.f a0 a1 a2 = some r) :
  Calls Try.prog 79 #[.int .i64 a0, .int .i64 a1, .int .i64 a2] w fun e w' => e = .returned (.bool r) ∧ Drawn0 w w' := by
 have H : (if a0 ≥ a1 then (some (decide (a0 ≤ a2))) else (some false)) = some r := h
 clear h
 by_cases c4 : a0 ≥ a1
 ·rw [if_pos c4] at H
  have c4b0 : decide (a1 ≤ a0) = true := decide_eq_true c4
  clear c4
  obtain rfl := Option.some.inj H
  go_enter Try.func79, Try.ntmps79
  go_wp2
  go_ret
  exact ⟨by first | rfl | (simp; done) | (simp [*]; done), by repeat (first | exact Drawn0.refl _ | apply Drawn0.step)⟩
 ·rw [if_neg c4] at H
  have c4b0 : decide (a1 ≤ a0) = false := decide_eq_false c4
  clear c4
  obtain rfl := Option.some.inj H
  go_enter Try.func79, Try.ntmps79
  go_wp2
  go_ret
  exact ⟨by first | rfl | (simp; done) | (simp [*]; done), by repeat (first | exact Drawn0.refl _ | apply Drawn0.step)⟩

/-! ### spec_l12Room: function 67 -/
def spec_l12Room.f (a0 : Int) : Option (Bool) := (spec_l1In.f a0 100 2000).bind fun t141 => (some t141)
set_option maxHeartbeats 8000000 in
set_option maxRecDepth 100000 in
theorem spec_l12Room.calls (a0 : Int) (r : Bool) (w : World) (h : spec_l12Room.f a0 = some r) :
  Calls Try.prog 67 #[.int .i64 a0] w fun e w' => e = .returned (.bool r) ∧ Drawn0 w w' := by
 have H : ((spec_l1In.f a0 100 2000).bind fun t141 => (some t141)) = some r := h
 clear h
 replace H := Option.bind_eq_some_iff.mp H
 obtain ⟨t141, A20, H⟩ := H
 try dsimp only at H
 have A2 := ak A20
 clear A20
 obtain rfl := Option.some.inj H
 go_enter Try.func67, Try.ntmps67
 go_wp2_with (first | (refine gL 79 Try.func79 (some 4) #[.int .i64 a0, .int .i64 100, .int .i64 2000] ?_; (with_reducible refine (spec_l1In.calls a0 100 2000 t141 _ A2.out).mono ?_); rintro e w' ⟨rfl, ⟨nd, rfl⟩⟩; refine ⟨_, rfl, ?_⟩))
 go_ret
 exact ⟨by first | rfl | (simp; done) | (simp [*]; done), by repeat (first | exact Drawn0.refl _ | apply Drawn0.step)⟩

/-! ### spec_l12Entry: function 55 -/
def spec_l12Entry.f (a0_0 : ByteArray) (a0_1 : ByteArray) : Option (Bool) := (spec_l1In.f (a0_0.size : Int) 1 20).bind fun t143 => (if t143 = true then (some (decide ((a0_1.size : Int) ≤ 60))) else (some false))
set_option maxHeartbeats 8000000 in
set_option maxRecDepth 100000 in
theorem spec_l12Entry.calls (a0_0 : ByteArray) (a0_1 : ByteArray) (r : Bool) (w : World) (h : spec_l12Entry.f a0_0 a0_1 = some r) :
  Calls Try.prog 55 #[.agg #[.string a0_0, .string a0_1]] w fun e w' => e = .returned (.bool r) ∧ Below w.heap.size w w' := by
 have hu45 := Try.underlying45
 have HB := ak (Below.refl w.heap.size w)
 have H : ((spec_l1In.f (a0_0.size : Int) 1 20).bind fun t143 => (if t143 = true then (some (decide ((a0_1.size : Int) ≤ 60))) else (some false))) = some r := h
 clear h
 replace H := Option.bind_eq_some_iff.mp H
 obtain ⟨t143, A20, H⟩ := H
 try dsimp only at H
 have A2 := ak A20
 clear A20
 by_cases c3 : t143 = true
 ·subst c3
  have H1 : (some (decide ((a0_1.size : Int) ≤ 60))) = some r := by rw [if_pos rfl] at H; exact H
  clear H
  have H := H1
  clear H1
  obtain rfl := Option.some.inj H
  go_enter Try.func55, Try.ntmps55
  go_wp2_with (first | ((with_reducible refine gate_dst (N := 1) rfl ?_); (try (refine gate_guard (by rfl) ?_; dsimp only)); refine box_event ?hg (N := 1) ?hd (cs := #[.string a0_0, .string a0_1]) (t := 45) ?hr ?_; (case hd => rfl); (case hg => rfl); (case hr => first | (go_simp; done) | (go_simp; rfl)); intro gb142 hg w4 hbox hb; have BK142 := ak hbox; have GW142 := gs hg (bl HB.out); have GE142 := gs hg (bl HB.out); replace HB := ak (below_step (bl HB.out) hb); clear hb hbox hg; obtain ⟨hcz5_0, hcz5_1, hfz5_0, hfz5_1⟩ := b2 BK142.out) | (refine gL 79 Try.func79 (some 6) #[.int .i64 (a0_0.size : Int), .int .i64 1, .int .i64 20] ?_; (with_reducible refine (spec_l1In.calls (a0_0.size : Int) 1 20 true _ A2.out).mono ?_); rintro e w' ⟨rfl, ⟨nd, rfl⟩⟩; refine ⟨_, rfl, ?_⟩))
  go_ret
  exact ⟨by first | rfl | (simp [errW_none, errW_some] <;> rfl) | (simp [*, errW_none, errW_some] <;> rfl), bl1 HB.out GE142.out⟩
 ·replace c3 := Bool.eq_false_iff.mpr c3
  subst c3
  have H1 : (some false) = some r := by rw [if_neg (show ¬ (false = true) by decide)] at H; exact H
  clear H
  have H := H1
  clear H1
  obtain rfl := Option.some.inj H
  go_enter Try.func55, Try.ntmps55
  go_wp2_with (first | ((with_reducible refine gate_dst (N := 1) rfl ?_); (try (refine gate_guard (by rfl) ?_; dsimp only)); refine box_event ?hg (N := 1) ?hd (cs := #[.string a0_0, .string a0_1]) (t := 45) ?hr ?_; (case hd => rfl); (case hg => rfl); (case hr => first | (go_simp; done) | (go_simp; rfl)); intro gb142 hg w6 hbox hb; have BK142 := ak hbox; have GW142 := gs hg (bl HB.out); have GE142 := gs hg (bl HB.out); replace HB := ak (below_step (bl HB.out) hb); clear hb hbox hg; obtain ⟨hcz7_0, hcz7_1, hfz7_0, hfz7_1⟩ := b2 BK142.out) | (refine gL 79 Try.func79 (some 6) #[.int .i64 (a0_0.size : Int), .int .i64 1, .int .i64 20] ?_; (with_reducible refine (spec_l1In.calls (a0_0.size : Int) 1 20 false _ A2.out).mono ?_); rintro e w' ⟨rfl, ⟨nd, rfl⟩⟩; refine ⟨_, rfl, ?_⟩))
  go_ret
  exact ⟨by first | rfl | (simp [errW_none, errW_some] <;> rfl) | (simp [*, errW_none, errW_some] <;> rfl), bl1 HB.out GE142.out⟩

/-! ### spec_l12Weight: function 85 -/
def spec_l12Weight.l0 : Nat → Int → List (S45) → Int → Int → Option (Int)
 | 0, _, _, _, _ => none
 | k + 1, x3, x6, x7, x8 => if x8 < x7 then (if 0 ≤ x8 then (if x8 < (x6.length : Int) then (spec_l12Weight.l0 k (wrap64 (x3 + (wrap64 ((((rd_T45 x6 x8).f0).size : Int) + (((rd_T45 x6 x8).f1).size : Int))))) x6 x7 (wrap64 (x8 + 1))) else (none)) else (none)) else (some x3)
def spec_l12Weight.f (k : Nat) (l0 : List (S45)) : Option (Int) := spec_l12Weight.l0 k 0 l0 (l0.length : Int) 0
theorem spec_l12Weight.mono_l : ∀ k, (∀ y0 y1 y2 y3, LeO (spec_l12Weight.l0 k y0 y1 y2 y3) (spec_l12Weight.l0 (k + 1) y0 y1 y2 y3))
 | 0 => fun _ _ _ _ r h => by simp [spec_l12Weight.l0] at h
 | k + 1 => by
  have ih0 := spec_l12Weight.mono_l k
  ·intro y0 y1 y2 y3
   unfold spec_l12Weight.l0
   repeat' first
   | (with_reducible exact ih0 _ _ _ _)
   | (with_reducible exact LeO.refl _)
   | (with_reducible exact LeO.none _)
   | (with_reducible refine LeO.ite ?_ ?_)
   | (with_reducible refine LeO.bind ?_ (fun _ => ?_))
   | exact ih0 _ _ _ _
   | exact LeO.none _
   | refine LeO.ite ?_ ?_
   | refine LeO.bind ?_ (fun _ => ?_)
theorem spec_l12Weight.mono : ∀ a0 k, LeO (spec_l12Weight.f k a0) (spec_l12Weight.f (k + 1) a0) := by
 intro a0 k
 have ih0 := spec_l12Weight.mono_l k
 unfold spec_l12Weight.f
 repeat' first
   | (with_reducible exact ih0 _ _ _ _)
   | (with_reducible exact LeO.refl _)
   | (with_reducible exact LeO.none _)
   | (with_reducible refine LeO.ite ?_ ?_)
   | (with_reducible refine LeO.bind ?_ (fun _ => ?_))
   | exact ih0 _ _ _ _
   | exact LeO.none _
   | refine LeO.ite ?_ ?_
   | refine LeO.bind ?_ (fun _ => ?_)
set_option maxHeartbeats 8000000 in
set_option maxRecDepth 100000 in
theorem spec_l12Weight.calls (k : Nat) (A0 : Option Addr) (c0 : Nat) (l0 : List (S45)) (r : Int) (w : World) (hr0 : Kd.C k45 w A0 l0.length l0) (hc0 : l0.length ≤ c0) (h : spec_l12Weight.f k l0 = some r) :
  Calls Try.prog 85 #[.slice A0 l0.length c0] w fun e w' => e = .returned (.int .i64 r) ∧ Below w.heap.size w w' := by
 have hu45 := Try.underlying45
 have HR0 := ak hr0
 have HC0 := ak hc0
 clear hr0 hc0
 have HB := ak (Below.refl w.heap.size w)
 have H : (spec_l12Weight.l0 k 0 l0 (l0.length : Int) 0) = some r := h
 clear h
 have H' := ak H
 clear H
 go_enter Try.func85, Try.ntmps85
 go_wp2
 go_loopg [3, 8] k (fun kq v3 v8 w' => ∃ (x3_1 : Int) (x8_1 : Int), v3 = .int .i64 x3_1 ∧ v8 = .int .i64 x8_1 ∧ Aside0 (spec_l12Weight.l0 kq x3_1 l0 (l0.length : Int) x8_1 = some r) ∧ Aside0 (kq ≤ k) ∧ Aside0 (Below w.heap.size w w'))
 case atStart => exact ⟨(0), (0), (by first | rfl | (simp; done) | (simp [*]; done)), (by first | rfl | (simp; done) | (simp [*]; done)), H', ⟨Nat.le_refl _⟩, ⟨bl HB.out⟩⟩
 case round =>
  clear H'
  obtain ⟨x3_1, x8_1, rfl, rfl, HA, HK1, HB⟩ := hrel
  cases gk with
  | zero => exact absurd HA.out (by simp [spec_l12Weight.l0])
  | succ k1 =>
   have H := HA.out
   clear HA
   simp only [spec_l12Weight.l0] at H
   by_cases c2 : x8_1 < (l0.length : Int)
   ·rw [if_pos c2] at H
    have c2b0 : decide (x8_1 < (l0.length : Int)) = true := decide_eq_true c2
    clear c2
    by_cases c3 : 0 ≤ x8_1
    ·rw [if_pos c3] at H
     have c3b0 : decide (0 ≤ x8_1) = true := decide_eq_true c3
     clear c3
     by_cases c4 : x8_1 < (l0.length : Int)
     ·rw [if_pos c4] at H
      have c4b0 : decide (x8_1 < (l0.length : Int)) = true := decide_eq_true c4
      clear c4
      have H' := ak H
      clear H
      have p144 : 0 ≤ (x8_1 : Int) := od
      have q144 : x8_1 < (l0.length : Int) := od
      obtain ⟨ad144, e144, hx144_0, hx144_1⟩ := at_T45 HR0.out x8_1 p144 q144
      cases e144
      replace hx144_0 := (HB.out.cell (World.block_lt_of_cell? w _ hx144_0)).trans hx144_0
      replace hx144_1 := (HB.out.cell (World.block_lt_of_cell? w _ hx144_1)).trans hx144_1
      replace p144 := eq_true p144
      replace q144 := eq_true q144
      go_wp2_with (first | (refine bE 5 #[.string (⟨#[]⟩ : ByteArray), .string (⟨#[]⟩ : ByteArray)] 45 ?_; intro gb145 hg w5 hbox hb; have BK145 := ak hbox; have GW145 := gs hg (bl HB.out); have GE145 := gs hg (bl HB.out); replace HB := ak (below_step (bl HB.out) hb); clear hb hbox hg; obtain ⟨hcz6_0, hcz6_1, hfz6_0, hfz6_1⟩ := b2 BK145.out))
      go_roundg k1
      case measure => have := HK1.out; omega
      case rel => exact ⟨(wrap64 (x3_1 + (wrap64 ((((rd_T45 l0 x8_1).f0).size : Int) + (((rd_T45 l0 x8_1).f1).size : Int))))), (wrap64 (x8_1 + 1)), (by first | rfl | (simp; done) | (simp [*]; done)), (by first | rfl | (simp; done) | (simp [*]; done)), H', ⟨by have := HK1.out; omega⟩, ⟨bl1 HB.out GE145.out⟩⟩
     ·rw [if_neg c4] at H
      exact absurd H (by simp)
    ·rw [if_neg c3] at H
     exact absurd H (by simp)
   ·rw [if_neg c2] at H
    have c2b0 : decide (x8_1 < (l0.length : Int)) = false := decide_eq_false c2
    clear c2
    obtain rfl := Option.some.inj H
    go_wp2
    go_ret
    exact ⟨by first | rfl | (simp [errW_none, errW_some] <;> rfl) | (simp [*, errW_none, errW_some] <;> rfl), bl HB.out⟩

end Go.Proofs.Ytfopmaiednikhaa.PFnParts
