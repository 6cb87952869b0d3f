-- written by a program of this session (wip/tool)
import Derived.Test.YtlmnmakkojgfnaaGreatDoorPFnExactKeptForx0
import Derived.Test.YtlmnmakkojgfnaaGreatDoorPFnExactKeptForx7
import Derived.Test.YtlmnmakkojgfnaaGreatDoorPFnExactKeptForx13
import Derived.Test.YtlmnmakkojgfnaaGreatDoorPFnExactKeptForx14
import Derived.Test.YtlmnmakkojgfnaaGreatDoorVOwn0
import Derived.Test.YtlmnmakkojgfnaaGreatDoorVOwnOpen
import Derived.WalkKit
import Derived.BigCall
import Derived.Test.YtlmnmakkojgfnaaGreatDoorOwnTr
import Derived.Test.YtlmnmakkojgfnaaGreatDoorVOwnShort
import Derived.Test.YtlmnmakkojgfnaaGreatDoorOwnSq
import Derived.Test.YtlmnmakkojgfnaaGreatDoorOwnIt
namespace Go.Proofs.YtlmnmakkojgfnaaGreatDoor.PFnExactKeptFor
open Go.RowKit Go.Proofs.YtlmnmakkojgfnaaGreatDoorW.PrintWords Go.Proofs.YtlmnmakkojgfnaaGreatDoorW.PrintLast Go.Proofs.YtlmnmakkojgfnaaGreatDoorW.PrintMore Go.Shelf Go.Proofs.YtlmnmakkojgfnaaGreatDoorOwn
attribute [local go_sem] max2_int min2_int max_two min_two max_three min_three max_four min_four   -- for this text's walks alone
set_option linter.unusedVariables false
set_option linter.unusedSimpArgs false

/-! ### impl_small: function 145 -/
def impl_small.f (a0 : ByteArray) : Option ByteArray := if a0.size ≤ 9223372036854775807 then some (lowT a0) else none
set_option maxHeartbeats 4000000 in
set_option maxRecDepth 100000 in
theorem impl_small.calls (a0 : ByteArray) (r : ByteArray) (w : World) (h : impl_small.f a0 = some r) :
  Calls Tryz.prog 145 #[.string a0] w fun e w' => e = .returned (.string r) ∧ Below w.heap.size w w' := by
 unfold impl_small.f at h
 split at h
 rotate_left
 ·cases h
 rename_i hm
 obtain rfl := Option.some.inj h
 clear h
 have kb := fun W => print_bytes (P := Tryz.prog) 9 66 5 Tryz.underlying9 Tryz.underlying66 Tryz.underlying5 a0 W
 have HB := ak (bytes_below (Below.refl w.heap.size w) (Nat.le_refl _) 5 a0)
 have HL := ak (show Lw (Lib.bytesWorld w 5 a0) w.heap.size (lowAt a0 0) from Lw.start w a0)
 go_enter Tryz.func145, Tryz.ntmps145
 go_wp2
 generalize hcap : grownCap w a0.size 0 5 = cap
 clear hcap kb
 go_loopg [10] a0.size (fun gg s9 wr => ∃ j : Nat, j ≤ a0.size ∧ a0.size - j ≤ gg ∧ s9 = .int .i64 j ∧ Aside0 (Lw wr w.heap.size (lowAt a0 j)) ∧ Aside0 (Below w.heap.size w wr))
 case atStart => exact ⟨0, Nat.zero_le _, by omega, rfl, HL, HB⟩
 case round =>
  clear HB HL
  obtain ⟨j, hj, hg, rfl, HL, HB⟩ := hrel
  have hlen := lowAt_length a0 j hj
  by_cases hlt : j < a0.size
  ·have hlt' : (j : Int) < (a0.size : Int) := by omega
   have hj0 : (0 : Int) ≤ (j : Int) := by omega
   have hc := HL.out.cell j (by omega)
   have hf := HL.out.frozen j (by omega)
   rw [lowAt_get a0 j hlt] at hc
   have hw1 : wrap64 ((j : Int) + 1) = ((j + 1 : Nat) : Int) := by unfold wrap64; omega
   have hbr := bt_range a0 (j : Int)
   by_cases h1 : 65 ≤ bt a0 (j : Int)
   ·have h1b : decide (65 ≤ bt a0 (j : Int)) = true := decide_eq_true h1
    by_cases h2 : bt a0 (j : Int) ≤ 90
    ·have h2b : decide (bt a0 (j : Int) ≤ 90) = true := decide_eq_true h2
     have e := lowAt_up a0 j hlt ⟨h1, h2⟩
     have HS := ak (HL.out.set j (by omega) (bt a0 (j : Int) + 32))
     rw [← e] at HS
     have hm32 : (bt a0 (j : Int) + 32) % 256 = bt a0 (j : Int) + 32 := by omega
     clear e
     generalize bt a0 (j : Int) = c at *
     go_wp2
     go_roundg (a0.size - (j + 1))
     case measure => omega
     case rel => exact ⟨j + 1, by omega, Nat.le_refl _, by go_num, HS, ⟨below_set HB.out (Nat.le_refl _)⟩⟩
    ·have h2b : decide (bt a0 (j : Int) ≤ 90) = false := decide_eq_false h2
     have e := lowAt_same a0 j hlt (fun h => h2 h.2)
     rw [← e] at HL
     generalize bt a0 (j : Int) = c at *
     go_wp2
     go_roundg (a0.size - (j + 1))
     case measure => omega
     case rel => exact ⟨j + 1, by omega, Nat.le_refl _, by go_num, HL, HB⟩
   ·have h1b : decide (65 ≤ bt a0 (j : Int)) = false := decide_eq_false h1
    have e := lowAt_same a0 j hlt (fun h => h1 h.1)
    rw [← e] at HL
    generalize bt a0 (j : Int) = c at *
    go_wp2
    go_roundg (a0.size - (j + 1))
    case measure => omega
    case rel => exact ⟨j + 1, by omega, Nat.le_refl _, by go_num, HL, HB⟩
  ·have hlt' : ¬ (j : Int) < (a0.size : Int) := by omega
   obtain rfl : j = a0.size := by omega
   rw [lowAt_end] at HL hlen
   have hr := HL.out.reads (by omega)
   rw [hlen] at hr
   have hs := string_of_reads (P := Tryz.prog) (src := 66) (dst := 9) (e := 5) (c := cap) Tryz.underlying66 Tryz.underlying5 Tryz.underlying9 hr
   clear hr
   go_wp2
   go_ret
   exact ⟨rfl, HB.out⟩


/-! ### impl_valuesOf: function 116 -/
def impl_valuesOf.l0 : Nat → ByteArray → List ByteArray → List (S105) → Int → Int → Option (List ByteArray)
 | 0, _, _, _, _, _ => none
 | k + 1, x1, x5, x8, x9, x10 => if x10 < x9 then (if 0 ≤ x10 then (if x10 < (x8.length : Int) then ((impl_small.f ((rd_T105 x8 x10).f0)).bind fun t401 => ((impl_small.f x1).bind fun t402 => (if t401.toList = t402.toList then (if x5.length < 8796093022208 then (impl_valuesOf.l0 k x1 (x5 ++ [(rd_T105 x8 x10).f1]) x8 x9 (wrap64 (x10 + 1))) else (none)) else (impl_valuesOf.l0 k x1 x5 x8 x9 (wrap64 (x10 + 1)))))) else (none)) else (none)) else (some x5)
def impl_valuesOf.f (k : Nat) (l0 : List (S105)) (a1 : ByteArray) : Option (List ByteArray) := impl_valuesOf.l0 k a1 ([] : List ByteArray) l0 (l0.length : Int) 0
theorem impl_valuesOf.mono_l : ∀ k, (∀ y0 y1 y2 y3 y4, LeO (impl_valuesOf.l0 k y0 y1 y2 y3 y4) (impl_valuesOf.l0 (k + 1) y0 y1 y2 y3 y4))
 | 0 => fun _ _ _ _ _ r h => by simp [impl_valuesOf.l0] at h
 | k + 1 => by
  have ih0 := impl_valuesOf.mono_l k
  ·intro y0 y1 y2 y3 y4
   unfold impl_valuesOf.l0
   repeat' with_reducible first | exact ih0 _ _ _ _ _ | exact LeO.refl _ | exact LeO.none _ | refine LeO.ite ?_ ?_ | refine LeO.bind ?_ (fun _ => ?_)
theorem impl_valuesOf.mono : ∀ a0 a1 k, LeO (impl_valuesOf.f k a0 a1) (impl_valuesOf.f (k + 1) a0 a1) := by
 intro a0 a1 k
 have ih0 := impl_valuesOf.mono_l k
 unfold impl_valuesOf.f
 repeat' with_reducible first | exact ih0 _ _ _ _ _ | exact LeO.refl _ | exact LeO.none _ | refine LeO.ite ?_ ?_ | refine LeO.bind ?_ (fun _ => ?_)
set_option maxHeartbeats 8000000 in
set_option maxRecDepth 100000 in
theorem impl_valuesOf.calls (k : Nat) (A0 : Option Addr) (c0 : Nat) (l0 : List (S105)) (a1 : ByteArray) (r : List ByteArray) (w : World) (hr0 : Kd.C k105 w A0 l0.length l0) (hc0 : l0.length ≤ c0) (h : impl_valuesOf.f k l0 a1 = some r) :
  Calls Tryz.prog 116 #[.slice A0 l0.length c0, .string a1] w fun e w' => ∃ v0_ : Value, e = .returned (v0_) ∧ Kd.R Kd.string 9 w' w.heap.size (fun _ => True) v0_ r ∧ Below w.heap.size w w' := by
 have hu105 := Tryz.underlying105
 have HR0 := ak hr0
 have HC0 := ak hc0
 clear hr0 hc0
 have HB := ak (Below.refl w.heap.size w)
 have H : (impl_valuesOf.l0 k a1 ([] : List ByteArray) l0 (l0.length : Int) 0) = some r := h
 clear h
 have H' := ak H
 clear H
 go_enter Tryz.func116, Tryz.ntmps116
 go_wp2
 go_loopg [5, 10] k (fun kq v5 v10 w' => ∃ (x5_1 : List ByteArray) (x10_1 : Int), v10 = .int .i64 x10_1 ∧ Aside0 (impl_valuesOf.l0 kq a1 x5_1 l0 (l0.length : Int) x10_1 = some r) ∧ Aside0 (kq ≤ k) ∧ Aside0 (Kd.R Kd.string 9 w' w.heap.size (fun _ => True) v5 x5_1) ∧ Aside0 (Below w.heap.size w w'))
 case atStart => exact ⟨(([] : List ByteArray)), (0), (by first | rfl | (simp; done) | (simp [*]; done)), H', ⟨Nat.le_refl _⟩, ⟨by first | exact Kd.R_nil _ _ _ _ _ | exact Kd.N_nil _ _ _ _ _ | exact Kd.V_nil _ _ _ _ _ | exact Kd.Q_nil _ _ _ _ _ | exact Kd.S_nil _ _ _ _ _⟩, ⟨bl HB.out⟩⟩
 case round =>
  clear H'
  try clear c1
  try clear p2
  obtain ⟨x5_1, x10_1, rfl, HA, HK1, HO_5, HB⟩ := hrel
  cases gk with
  | zero => exact absurd HA.out (by simp [impl_valuesOf.l0])
  | succ k1 =>
   have H := HA.out
   clear HA
   simp only [impl_valuesOf.l0] at H
   by_cases c3 : x10_1 < (l0.length : Int)
   ·rw [if_pos c3] at H
    have c3b0 := decide_eq_true c3
    clear c3
    by_cases c4 : 0 ≤ x10_1
    ·rw [if_pos c4] at H
     have c4b0 := decide_eq_true c4
     clear c4
     by_cases c5 : x10_1 < (l0.length : Int)
     ·rw [if_pos c5] at H
      have c5b0 := decide_eq_true c5
      clear c5
      replace H := bs H
      obtain ⟨t401, A6, H⟩ := H
      try dsimp only at H
      replace H := bs H
      obtain ⟨t402, A7, H⟩ := H
      try dsimp only at H
      by_cases c8 : t401.toList = t402.toList
      ·rw [if_pos c8] at H
       have c8b0 : (t401.toList == t402.toList) = true := beq_iff_eq.mpr c8
       have c8b1 : (t401.toList != t402.toList) = false := bne_eq_false_iff_eq.mpr c8
       clear c8
       by_cases c9 : x5_1.length < 8796093022208
       ·rw [if_pos c9] at H
        have LMc9 := ak c9
        clear c9
        obtain ⟨y403, hy403⟩ : ∃ y_ : List ByteArray, y_ = (x5_1 ++ [(rd_T105 l0 x10_1).f1]) := ⟨_, rfl⟩
        replace H : (impl_valuesOf.l0 k1 a1 y403 l0 (l0.length : Int) (wrap64 (x10_1 + 1))) = some r := by first | (rw [hy403]; with_reducible exact H) | (have H2_ := (Option.bind_some _ _).symm.trans H; rw [hy403]; with_reducible exact H2_) | (have H2_ := (Option.bind_some _ _).symm.trans H; with_reducible exact H2_) | with_reducible exact H | (rw [hy403]; exact H) | exact H
        have Ny403 := ak hy403
        clear hy403
        have H' := ak H
        clear H
        have p399 : 0 ≤ (x10_1 : Int) := od
        have q399 : x10_1 < (l0.length : Int) := od
        obtain ⟨ad399, e399, hx399_0, hx399_1⟩ := at_T105 HR0.out x10_1 p399 q399
        cases e399
        replace hx399_0 := (HB.out.cell (World.block_lt_of_cell? w _ hx399_0)).trans hx399_0
        replace hx399_1 := (HB.out.cell (World.block_lt_of_cell? w _ hx399_1)).trans hx399_1
        replace p399 := eq_true p399
        replace q399 := eq_true q399
        go_wp2_with (first | ((with_reducible refine gd 7 ?_); refine bE 7 #[.string (⟨#[]⟩ : ByteArray), .string (⟨#[]⟩ : ByteArray)] 105 ?_; intro gb400 hg w10 hbox hb; replace HO_5 := ak (Kd.R_below (kr HO_5.out) hb); have BK400 := ak hbox; have GW400 := gs hg (bl HB.out); have GE400 := gs hg (bl HB.out); replace HB := ak (below_step (bl HB.out) hb); clear hb hbox hg; obtain ⟨_, _, _, _⟩ := b2 BK400.out) | ((with_reducible refine gc 145 ?_); refine gL 145 Tryz.func145 (some 16) #[.string ((rd_T105 l0 x10_1).f0)] ?_; (with_reducible refine (impl_small.calls ((rd_T105 l0 x10_1).f0) t401 _ A6.out).mono ?_); rintro e w12 ⟨rfl, hb⟩; refine ⟨_, rfl, ?_⟩; replace HO_5 := ak (Kd.R_below (by (with_reducible repeat (first | apply Kd.R_alloc | apply Kd.R_drewN | apply Kd.R_drew)); exact (Kd.R_mono (Kd.R_far (p := ⟨gb400, 1, none⟩) (Kd.R_far (p := ⟨gb400, 0, none⟩) (Kd.R_types HO_5.out BK400.out (by decide)) (fun _ hk => hk.2) (.string ((rd_T105 l0 x10_1).f0))) (fun _ hk => hk.2) (.string ((rd_T105 l0 x10_1).f1))) (fun _ h_ => h_.1))) hb); replace BK400 := ak (blk_below (g := gb400) (o := .cells #[.string ((rd_T105 l0 x10_1).f0), .string ((rd_T105 l0 x10_1).f1)] 105 (0, 0)) (bq BK400.out) hb); replace HB := ak (below_step (bl1 HB.out GE400.out) hb); clear hb) | ((with_reducible refine gc 145 ?_); refine gL 145 Tryz.func145 (some 18) #[.string a1] ?_; (with_reducible refine (impl_small.calls a1 t402 _ A7.out).mono ?_); rintro e w13 ⟨rfl, hb⟩; refine ⟨_, rfl, ?_⟩; replace HO_5 := ak (Kd.R_below (kr HO_5.out) hb); replace BK400 := ak (blk_below (bk BK400.out) hb); replace HB := ak (below_step (bl1 HB.out GE400.out) hb); clear hb; obtain ⟨_, _, _, _⟩ := b2 BK400.out) | ((with_reducible refine gate_builtin (b := .append) (xs := #[.tmp 20, .tmp 23]) rfl ?_); at_builtin; refine Kd.R_append Kd.string (w0 := w) w.heap.size rfl (.tmp 20) (.tmp 23) 114 9 (.string ⟨#[]⟩) 16 rfl Tryz.underlying114 info9 rfl (by decide) (by omega) u5 x5_1 ((rd_T105 l0 x10_1).f1) [.string ((rd_T105 l0 x10_1).f1)] (fun _ => True) (fun _ => False) rfl rfl ?aP (fun _ hk => hk.elim) ?aF ?aO ?aB ?aS ?aL ?_; (case aP => exact rfl); (case aB => exact (bl1 HB.out GE400.out)); (case aF => exact (fun _ _ => trivial)); (case aO => exact (kr HO_5.out)); (case aS => exact (below_size (bl1 HB.out GE400.out))); (case aL => have := LMc9.out; omega); intro v404 w15 ho hb hg hat; rw [← Ny403.out] at ho; replace BK400 := ak (blk_grown (bk BK400.out) hg (Kd.R_ne HO_5.out BK400.out (by decide))); replace HB := ak hb; have HO405 := ak ho; clear HO_5; clear ho hb hg hat))
        go_roundg k1
        case measure => have := HK1.out; omega
        case rel => exact ⟨(y403), (wrap64 (x10_1 + 1)), (by first | rfl | (simp; done) | (simp [*]; done)), H', ⟨by have := HK1.out; omega⟩, ⟨kr HO405.out⟩, ⟨bl1 HB.out GE400.out⟩⟩
       ·rw [if_neg c9] at H
        exact absurd H (by simp)
      ·rw [if_neg c8] at H
       have c8b0 : (t401.toList == t402.toList) = false := beq_eq_false_iff_ne.mpr c8
       have c8b1 : (t401.toList != t402.toList) = true := bne_iff_ne.mpr c8
       have H' := ak H
       clear H
       have p399 : 0 ≤ (x10_1 : Int) := od
       have q399 : x10_1 < (l0.length : Int) := od
       obtain ⟨ad399, e399, hx399_0, hx399_1⟩ := at_T105 HR0.out x10_1 p399 q399
       cases e399
       replace hx399_0 := (HB.out.cell (World.block_lt_of_cell? w _ hx399_0)).trans hx399_0
       replace hx399_1 := (HB.out.cell (World.block_lt_of_cell? w _ hx399_1)).trans hx399_1
       replace p399 := eq_true p399
       replace q399 := eq_true q399
       go_wp2_with (first | ((with_reducible refine gd 7 ?_); refine bE 7 #[.string (⟨#[]⟩ : ByteArray), .string (⟨#[]⟩ : ByteArray)] 105 ?_; intro gb400 hg w16 hbox hb; replace HO_5 := ak (Kd.R_below (kr HO_5.out) hb); have BK400 := ak hbox; have GW400 := gs hg (bl HB.out); have GE400 := gs hg (bl HB.out); replace HB := ak (below_step (bl HB.out) hb); clear hb hbox hg; obtain ⟨_, _, _, _⟩ := b2 BK400.out) | ((with_reducible refine gc 145 ?_); refine gL 145 Tryz.func145 (some 16) #[.string ((rd_T105 l0 x10_1).f0)] ?_; (with_reducible refine (impl_small.calls ((rd_T105 l0 x10_1).f0) t401 _ A6.out).mono ?_); rintro e w18 ⟨rfl, hb⟩; refine ⟨_, rfl, ?_⟩; replace HO_5 := ak (Kd.R_below (by (with_reducible repeat (first | apply Kd.R_alloc | apply Kd.R_drewN | apply Kd.R_drew)); exact (Kd.R_mono (Kd.R_far (p := ⟨gb400, 1, none⟩) (Kd.R_far (p := ⟨gb400, 0, none⟩) (Kd.R_types HO_5.out BK400.out (by decide)) (fun _ hk => hk.2) (.string ((rd_T105 l0 x10_1).f0))) (fun _ hk => hk.2) (.string ((rd_T105 l0 x10_1).f1))) (fun _ h_ => h_.1))) hb); replace BK400 := ak (blk_below (g := gb400) (o := .cells #[.string ((rd_T105 l0 x10_1).f0), .string ((rd_T105 l0 x10_1).f1)] 105 (0, 0)) (bq BK400.out) hb); replace HB := ak (below_step (bl1 HB.out GE400.out) hb); clear hb) | ((with_reducible refine gc 145 ?_); refine gL 145 Tryz.func145 (some 18) #[.string a1] ?_; (with_reducible refine (impl_small.calls a1 t402 _ A7.out).mono ?_); rintro e w19 ⟨rfl, hb⟩; refine ⟨_, rfl, ?_⟩; replace HO_5 := ak (Kd.R_below (kr HO_5.out) hb); replace BK400 := ak (blk_below (bk BK400.out) hb); replace HB := ak (below_step (bl1 HB.out GE400.out) hb); clear hb))
       go_roundg k1
       case measure => have := HK1.out; omega
       case rel => exact ⟨(x5_1), (wrap64 (x10_1 + 1)), (by first | rfl | (simp; done) | (simp [*]; done)), H', ⟨by have := HK1.out; omega⟩, ⟨kr HO_5.out⟩, ⟨bl1 HB.out GE400.out⟩⟩
     ·rw [if_neg c5] at H
      exact absurd H (by simp)
    ·rw [if_neg c4] at H
     exact absurd H (by simp)
   ·rw [if_neg c3] at H
    have c3b0 := decide_eq_false c3
    clear c3
    obtain rfl := Option.some.inj H
    go_wp2
    go_ret
    exact ⟨_, by first | rfl | (simp [errW_none, errW_some] <;> rfl) | (simp [*, errW_none, errW_some] <;> rfl), kr HO_5.out, bl HB.out⟩

/-! ### impl_listOf: function 143 -/
mutual
def impl_listOf.l0 : Nat → ByteArray → List ByteArray → Int → Bool → Int → Option (List ByteArray × Bool)
 | 0, _, _, _, _, _ => none
 | k + 1, x0, x4, x5, x6, x7 => if x7 ≤ (x0.size : Int) then (if x7 = (x0.size : Int) then (impl_listOf.j1 k x0 x4 x5 x6 x7 true) else (if 0 ≤ x7 then (if x7 < (x0.size : Int) then (if (bt x0 x7) = 44 then (impl_listOf.j1 k x0 x4 x5 x6 x7 (!x6)) else (impl_listOf.j1 k x0 x4 x5 x6 x7 false)) else (none)) else (none))) else (some (x4, !x6))
def impl_listOf.j1 : Nat → ByteArray → List ByteArray → Int → Bool → Int → Bool → Option (List ByteArray × Bool)
 | 0, _, _, _, _, _, _ => none
 | k + 1, x0, x4, x5, x6, x7, x15 => if x15 = true then (if 0 ≤ x5 then (if x5 ≤ x7 then (if x7 ≤ (x0.size : Int) then ((strings_Trim.f (x0.extract (x5 : Int).toNat (x7 : Int).toNat) (⟨#[32]⟩ : ByteArray)).bind fun t406 => (if t406.toList = ([] : List UInt8) then (impl_listOf.l0 k x0 x4 (wrap64 (x7 + 1)) x6 (wrap64 (x7 + 1))) else (if x4.length < 8796093022208 then (impl_listOf.l0 k x0 (x4 ++ [t406]) (wrap64 (x7 + 1)) x6 (wrap64 (x7 + 1))) else (none)))) else (none)) else (none)) else (none)) else (if 0 ≤ x7 then (if x7 < (x0.size : Int) then (if (bt x0 x7) = 34 then (impl_listOf.l0 k x0 x4 x5 (!x6) (wrap64 (x7 + 1))) else (if (bt x0 x7) = 92 then (impl_listOf.j2 k x0 x4 x5 x6 x7 x6) else (impl_listOf.j2 k x0 x4 x5 x6 x7 false))) else (none)) else (none))
def impl_listOf.j2 : Nat → ByteArray → List ByteArray → Int → Bool → Int → Bool → Option (List ByteArray × Bool)
 | 0, _, _, _, _, _, _ => none
 | k + 1, x0, x4, x5, x6, x7, x50 => if x50 = true then (if (wrap64 (x7 + 1)) = (x0.size : Int) then (some (([] : List ByteArray), false)) else (impl_listOf.l0 k x0 x4 x5 x6 (wrap64 ((wrap64 (x7 + 1)) + 1)))) else (impl_listOf.l0 k x0 x4 x5 x6 (wrap64 (x7 + 1)))
end
def impl_listOf.f (k : Nat) (a0 : ByteArray) : Option (List ByteArray × Bool) := impl_listOf.l0 k a0 ([] : List ByteArray) 0 false 0
theorem impl_listOf.mono_l : ∀ k, (∀ y0 y1 y2 y3 y4, LeO (impl_listOf.l0 k y0 y1 y2 y3 y4) (impl_listOf.l0 (k + 1) y0 y1 y2 y3 y4)) ∧ (∀ y0 y1 y2 y3 y4 y5, LeO (impl_listOf.j1 k y0 y1 y2 y3 y4 y5) (impl_listOf.j1 (k + 1) y0 y1 y2 y3 y4 y5)) ∧ (∀ y0 y1 y2 y3 y4 y5, LeO (impl_listOf.j2 k y0 y1 y2 y3 y4 y5) (impl_listOf.j2 (k + 1) y0 y1 y2 y3 y4 y5))
 | 0 => ⟨fun _ _ _ _ _ r h => by simp [impl_listOf.l0] at h, fun _ _ _ _ _ _ r h => by simp [impl_listOf.j1] at h, fun _ _ _ _ _ _ r h => by simp [impl_listOf.j2] at h⟩
 | k + 1 => by
  obtain ⟨ih0, ih1, ih2⟩ := impl_listOf.mono_l k
  refine ⟨?_, ?_, ?_⟩
  ·intro y0 y1 y2 y3 y4
   unfold impl_listOf.l0
   repeat' with_reducible first | exact ih0 _ _ _ _ _ | exact ih1 _ _ _ _ _ _ | exact ih2 _ _ _ _ _ _ | exact LeO.refl _ | exact LeO.none _ | refine LeO.ite ?_ ?_ | refine LeO.bind ?_ (fun _ => ?_)
  ·intro y0 y1 y2 y3 y4 y5
   unfold impl_listOf.j1
   repeat' with_reducible first | exact ih0 _ _ _ _ _ | exact ih1 _ _ _ _ _ _ | exact ih2 _ _ _ _ _ _ | exact LeO.refl _ | exact LeO.none _ | refine LeO.ite ?_ ?_ | refine LeO.bind ?_ (fun _ => ?_)
  ·intro y0 y1 y2 y3 y4 y5
   unfold impl_listOf.j2
   repeat' with_reducible first | exact ih0 _ _ _ _ _ | exact ih1 _ _ _ _ _ _ | exact ih2 _ _ _ _ _ _ | exact LeO.refl _ | exact LeO.none _ | refine LeO.ite ?_ ?_ | refine LeO.bind ?_ (fun _ => ?_)
theorem impl_listOf.mono : ∀ a0 k, LeO (impl_listOf.f k a0) (impl_listOf.f (k + 1) a0) := by
 intro a0 k
 obtain ⟨ih0, ih1, ih2⟩ := impl_listOf.mono_l k
 unfold impl_listOf.f
 repeat' with_reducible first | exact ih0 _ _ _ _ _ | exact ih1 _ _ _ _ _ _ | exact ih2 _ _ _ _ _ _ | exact LeO.refl _ | exact LeO.none _ | refine LeO.ite ?_ ?_ | refine LeO.bind ?_ (fun _ => ?_)
set_option maxHeartbeats 8000000 in
set_option maxRecDepth 100000 in
theorem impl_listOf.calls (k : Nat) (a0 : ByteArray) (r1 : List ByteArray) (r2 : Bool) (w : World) (h : impl_listOf.f k a0 = some (r1, r2)) :
  Calls Tryz.prog 143 #[.string a0] w fun e w' => ∃ v0_ : Value, e = .returned (.tuple #[v0_, .bool r2]) ∧ Kd.R Kd.string 9 w' w.heap.size (fun _ => True) v0_ r1 ∧ Below w.heap.size w w' := by
 have HB := ak (Below.refl w.heap.size w)
 have H : (impl_listOf.l0 k a0 ([] : List ByteArray) 0 false 0) = some (r1, r2) := h
 clear h
 have H' := ak H
 clear H
 go_enter Tryz.func143, Tryz.ntmps143
 go_wp2
 go_loopg [4, 5, 6, 7] k (fun kq v4 v5 v6 v7 w' => ∃ (x4_1 : List ByteArray) (x5_1 : Int) (x6_1 : Bool) (x7_1 : Int), v5 = .int .i64 x5_1 ∧ v6 = .bool x6_1 ∧ v7 = .int .i64 x7_1 ∧ Aside0 (impl_listOf.l0 kq a0 x4_1 x5_1 x6_1 x7_1 = some (r1, r2)) ∧ Aside0 (kq ≤ k) ∧ Aside0 (Kd.R Kd.string 9 w' w.heap.size (fun _ => True) v4 x4_1) ∧ Aside0 (Below w.heap.size w w'))
 case atStart => exact ⟨(([] : List ByteArray)), (0), (false), (0), (by first | rfl | (simp; done) | (simp [*]; done)), (by first | rfl | (simp; done) | (simp [*]; done)), (by first | rfl | (simp; done) | (simp [*]; done)), H', ⟨Nat.le_refl _⟩, ⟨by first | exact Kd.R_nil _ _ _ _ _ | exact Kd.N_nil _ _ _ _ _ | exact Kd.V_nil _ _ _ _ _ | exact Kd.Q_nil _ _ _ _ _ | exact Kd.S_nil _ _ _ _ _⟩, ⟨bl HB.out⟩⟩
 case round =>
  clear H'
  try clear c1
  obtain ⟨x4_1, x5_1, x6_1, x7_1, rfl, rfl, rfl, HA, HK1, HO_4, HB⟩ := hrel
  cases gk with
  | zero => exact absurd HA.out (by simp [impl_listOf.l0])
  | succ k1 =>
   have H := HA.out
   clear HA
   simp only [impl_listOf.l0] at H
   by_cases c2 : x7_1 ≤ (a0.size : Int)
   ·rw [if_pos c2] at H
    have c2b0 := decide_eq_true c2
    clear c2
    have HC3 := ak H
    clear H
    go_upto_region 6 with (fail)
    go_cut [15] (fun v15 wc => ∃ (kq : Nat) (x15_2 : Bool), v15 = .bool x15_2 ∧ Aside0 (impl_listOf.j1 kq a0 x4_1 x5_1 x6_1 x7_1 x15_2 = some (r1, r2)) ∧ Aside0 (kq ≤ k1) ∧ Aside0 (Kd.R Kd.string 9 wc w.heap.size (fun _ => True) u4 x4_1) ∧ Aside0 (Below w.heap.size w wc))
    case first =>
     have H := HC3.out
     clear HC3
     by_cases c4 : x7_1 = (a0.size : Int)
     ·rw [if_pos c4] at H
      have c4b0 : (x7_1 == (a0.size : Int)) = true := beq_iff_eq.mpr c4
      have c4b1 : (x7_1 != (a0.size : Int)) = false := bne_eq_false_iff_eq.mpr c4
      clear c4
      (first | rw [c4b0] | (simp only [i64_w, i32_w]; rw [c4b0]) | skip)
      have H' := ak H
      clear H
      go_wp2
      go_meet
      case rel => exact ⟨_, (true), (by first | rfl | (simp; done) | (simp [*]; done)), H', ⟨by have := HK1.out; first | omega | exact Nat.le_refl _⟩, ⟨kr HO_4.out⟩, ⟨bl HB.out⟩⟩
     ·rw [if_neg c4] at H
      have c4b0 : (x7_1 == (a0.size : Int)) = false := beq_eq_false_iff_ne.mpr c4
      have c4b1 : (x7_1 != (a0.size : Int)) = true := bne_iff_ne.mpr c4
      (first | rw [c4b0] | (simp only [i64_w, i32_w]; rw [c4b0]) | skip)
      by_cases c5 : 0 ≤ x7_1
      ·rw [if_pos c5] at H
       have c5b0 := decide_eq_true c5
       clear c5
       by_cases c6 : x7_1 < (a0.size : Int)
       ·rw [if_pos c6] at H
        have c6b0 := decide_eq_true c6
        clear c6
        by_cases c8 : (bt a0 x7_1) = 44
        ·rw [if_pos c8] at H
         have c8b0 : ((bt a0 x7_1) == 44) = true := beq_iff_eq.mpr c8
         have c8b1 : ((bt a0 x7_1) != 44) = false := bne_eq_false_iff_eq.mpr c8
         clear c8
         have H' := ak H
         clear H
         have p7 : 0 ≤ (x7_1 : Int) := od
         have q7 : x7_1 < (a0.size : Int) := od
         have hx7 := bt_at a0 x7_1
         replace p7 := eq_true p7
         replace q7 := eq_true q7
         go_wp2
         go_meet
         case rel => exact ⟨_, (!x6_1), (by first | rfl | (simp; done) | (simp [*]; done)), H', ⟨by have := HK1.out; first | omega | exact Nat.le_refl _⟩, ⟨kr HO_4.out⟩, ⟨bl HB.out⟩⟩
        ·rw [if_neg c8] at H
         have c8b0 : ((bt a0 x7_1) == 44) = false := beq_eq_false_iff_ne.mpr c8
         have c8b1 : ((bt a0 x7_1) != 44) = true := bne_iff_ne.mpr c8
         have H' := ak H
         clear H
         have p7 : 0 ≤ (x7_1 : Int) := od
         have q7 : x7_1 < (a0.size : Int) := od
         have hx7 := bt_at a0 x7_1
         replace p7 := eq_true p7
         replace q7 := eq_true q7
         go_wp2
         go_meet
         case rel => exact ⟨_, (false), (by first | rfl | (simp; done) | (simp [*]; done)), H', ⟨by have := HK1.out; first | omega | exact Nat.le_refl _⟩, ⟨kr HO_4.out⟩, ⟨bl HB.out⟩⟩
       ·rw [if_neg c6] at H
        exact absurd H (by simp)
      ·rw [if_neg c5] at H
       exact absurd H (by simp)
    case rest =>
     clear HC3
     try clear c1
     try clear c2
     try clear c2b0
     try clear p2
     try clear c4
     try clear c4b0
     try clear c4b1
     try clear c5
     try clear c5b0
     try clear c6
     try clear c6b0
     try clear p7
     try clear q7
     try clear hx7
     try clear c8
     try clear c8b0
     try clear c8b1
     try clear p7
     try clear q7
     obtain ⟨kq, x15_2, rfl, HA, HJ2, HO_4, HB⟩ := hcut
     cases kq with
     | zero => exact absurd HA.out (by simp [impl_listOf.j1])
     | succ kj2 =>
      have H := HA.out
      clear HA
      simp only [impl_listOf.j1] at H
      by_cases c9 : x15_2 = true
      ·subst c9
       rw [if_pos rfl] at H
       by_cases c10 : 0 ≤ x5_1
       ·rw [if_pos c10] at H
        have c10b0 := eq_true c10
        have c10b1 := decide_eq_true c10
        clear c10
        by_cases c11 : x5_1 ≤ x7_1
        ·rw [if_pos c11] at H
         have c11b0 := eq_true c11
         have c11b1 := decide_eq_true c11
         clear c11
         by_cases c12 : x7_1 ≤ (a0.size : Int)
         ·rw [if_pos c12] at H
          have c12b0 := eq_true c12
          have c12b1 := decide_eq_true c12
          clear c12
          replace H := bs H
          obtain ⟨t406, A13, H⟩ := H
          try dsimp only at H
          by_cases c14 : t406.toList = ([] : List UInt8)
          ·rw [if_pos c14] at H
           have c14b0 : (t406.toList == ([] : List UInt8)) = true := beq_iff_eq.mpr c14
           have c14b1 : (t406.toList != ([] : List UInt8)) = false := bne_eq_false_iff_eq.mpr c14
           clear c14
           have H' := ak H
           clear H
           go_wp2_with (first | ((with_reducible refine gc 177 ?_); refine gL 177 Tryz.func177 (some 34) #[.string (a0.extract (x5_1 : Int).toNat (x7_1 : Int).toNat), .string (⟨#[32]⟩ : ByteArray)] ?_; (with_reducible refine (strings_Trim.calls (a0.extract (x5_1 : Int).toNat (x7_1 : Int).toNat) (⟨#[32]⟩ : ByteArray) t406 _ A13.out).mono ?_); rintro e w15 ⟨rfl, hb⟩; refine ⟨_, rfl, ?_⟩; replace HO_4 := ak (Kd.R_below (kr HO_4.out) hb); replace HB := ak (below_step (bl HB.out) hb); clear hb))
           go_roundg kj2
           case measure => have := HK1.out; have := HJ2.out; omega
           case rel => exact ⟨(x4_1), (wrap64 (x7_1 + 1)), (x6_1), (wrap64 (x7_1 + 1)), (by first | rfl | (simp; done) | (simp [*]; done)), (by first | rfl | (simp; done) | (simp [*]; done)), (by first | rfl | (simp; done) | (simp [*]; done)), H', ⟨by have := HK1.out; have := HJ2.out; omega⟩, ⟨kr HO_4.out⟩, ⟨bl HB.out⟩⟩
          ·rw [if_neg c14] at H
           have c14b0 : (t406.toList == ([] : List UInt8)) = false := beq_eq_false_iff_ne.mpr c14
           have c14b1 : (t406.toList != ([] : List UInt8)) = true := bne_iff_ne.mpr c14
           by_cases c16 : x4_1.length < 8796093022208
           ·rw [if_pos c16] at H
            have LMc16 := ak c16
            clear c16
            obtain ⟨y407, hy407⟩ : ∃ y_ : List ByteArray, y_ = (x4_1 ++ [t406]) := ⟨_, rfl⟩
            replace H : (impl_listOf.l0 kj2 a0 y407 (wrap64 (x7_1 + 1)) x6_1 (wrap64 (x7_1 + 1))) = some (r1, r2) := by first | (rw [hy407]; with_reducible exact H) | (have H2_ := (Option.bind_some _ _).symm.trans H; rw [hy407]; with_reducible exact H2_) | (have H2_ := (Option.bind_some _ _).symm.trans H; with_reducible exact H2_) | with_reducible exact H | (rw [hy407]; exact H) | exact H
            have Ny407 := ak hy407
            clear hy407
            have H' := ak H
            clear H
            go_wp2_with (first | ((with_reducible refine gc 177 ?_); refine gL 177 Tryz.func177 (some 34) #[.string (a0.extract (x5_1 : Int).toNat (x7_1 : Int).toNat), .string (⟨#[32]⟩ : ByteArray)] ?_; (with_reducible refine (strings_Trim.calls (a0.extract (x5_1 : Int).toNat (x7_1 : Int).toNat) (⟨#[32]⟩ : ByteArray) t406 _ A13.out).mono ?_); rintro e w17 ⟨rfl, hb⟩; refine ⟨_, rfl, ?_⟩; replace HO_4 := ak (Kd.R_below (kr HO_4.out) hb); replace HB := ak (below_step (bl HB.out) hb); clear hb) | ((with_reducible refine gate_builtin (b := .append) (xs := #[.tmp 37, .tmp 39]) rfl ?_); at_builtin; refine Kd.R_append Kd.string (w0 := w) w.heap.size rfl (.tmp 37) (.tmp 39) 114 9 (.string ⟨#[]⟩) 16 rfl Tryz.underlying114 info9 rfl (by decide) (by omega) u4 x4_1 t406 [.string t406] (fun _ => True) (fun _ => False) rfl rfl ?aP (fun _ hk => hk.elim) ?aF ?aO ?aB ?aS ?aL ?_; (case aP => exact rfl); (case aB => exact (bl HB.out)); (case aF => exact (fun _ _ => trivial)); (case aO => exact (kr HO_4.out)); (case aS => exact (below_size (bl HB.out))); (case aL => have := LMc16.out; omega); intro v408 w18 ho hb hg hat; rw [← Ny407.out] at ho; replace HB := ak hb; have HO409 := ak ho; clear HO_4; clear ho hb hg hat))
            go_roundg kj2
            case measure => have := HK1.out; have := HJ2.out; omega
            case rel => exact ⟨(y407), (wrap64 (x7_1 + 1)), (x6_1), (wrap64 (x7_1 + 1)), (by first | rfl | (simp; done) | (simp [*]; done)), (by first | rfl | (simp; done) | (simp [*]; done)), (by first | rfl | (simp; done) | (simp [*]; done)), H', ⟨by have := HK1.out; have := HJ2.out; omega⟩, ⟨kr HO409.out⟩, ⟨bl HB.out⟩⟩
           ·rw [if_neg c16] at H
            exact absurd H (by simp)
         ·rw [if_neg c12] at H
          exact absurd H (by simp)
        ·rw [if_neg c11] at H
         exact absurd H (by simp)
       ·rw [if_neg c10] at H
        exact absurd H (by simp)
      ·replace c9 := Bool.eq_false_iff.mpr c9
       subst c9
       rw [if_neg ff] at H
       by_cases c19 : 0 ≤ x7_1
       ·rw [if_pos c19] at H
        have c19b0 := decide_eq_true c19
        clear c19
        by_cases c20 : x7_1 < (a0.size : Int)
        ·rw [if_pos c20] at H
         have c20b0 := decide_eq_true c20
         clear c20
         by_cases c22 : (bt a0 x7_1) = 34
         ·rw [if_pos c22] at H
          have c22b0 : ((bt a0 x7_1) == 34) = true := beq_iff_eq.mpr c22
          have c22b1 : ((bt a0 x7_1) != 34) = false := bne_eq_false_iff_eq.mpr c22
          clear c22
          have H' := ak H
          clear H
          have p21 : 0 ≤ (x7_1 : Int) := od
          have q21 : x7_1 < (a0.size : Int) := od
          have hx21 := bt_at a0 x7_1
          replace p21 := eq_true p21
          replace q21 := eq_true q21
          go_wp2
          go_roundg kj2
          case measure => have := HK1.out; have := HJ2.out; omega
          case rel => exact ⟨(x4_1), (x5_1), (!x6_1), (wrap64 (x7_1 + 1)), (by first | rfl | (simp; done) | (simp [*]; done)), (by first | rfl | (simp; done) | (simp [*]; done)), (by first | rfl | (simp; done) | (simp [*]; done)), H', ⟨by have := HK1.out; have := HJ2.out; omega⟩, ⟨kr HO_4.out⟩, ⟨bl HB.out⟩⟩
         ·rw [if_neg c22] at H
          have c22b0 : ((bt a0 x7_1) == 34) = false := beq_eq_false_iff_ne.mpr c22
          have c22b1 : ((bt a0 x7_1) != 34) = true := bne_iff_ne.mpr c22
          have HC23 := ak H
          clear H
          have p21 : 0 ≤ (x7_1 : Int) := od
          have q21 : x7_1 < (a0.size : Int) := od
          have hx21 := bt_at a0 x7_1
          replace p21 := eq_true p21
          replace q21 := eq_true q21
          go_upto_region 13 with (fail)
          go_cut [50] (fun v50 wc => ∃ (kq : Nat) (x50_22 : Bool), v50 = .bool x50_22 ∧ Aside0 (impl_listOf.j2 kq a0 x4_1 x5_1 x6_1 x7_1 x50_22 = some (r1, r2)) ∧ Aside0 (kq ≤ kj2) ∧ Aside0 (Kd.R Kd.string 9 wc w.heap.size (fun _ => True) u4 x4_1) ∧ Aside0 (Below w.heap.size w wc))
          case first =>
           have H := HC23.out
           clear HC23
           by_cases c25 : (bt a0 x7_1) = 92
           ·rw [if_pos c25] at H
            have c25b0 : ((bt a0 x7_1) == 92) = true := beq_iff_eq.mpr c25
            have c25b1 : ((bt a0 x7_1) != 92) = false := bne_eq_false_iff_eq.mpr c25
            clear c25
            (first | rw [c25b0] | (simp only [i64_w, i32_w]; rw [c25b0]) | skip)
            have H' := ak H
            clear H
            have p24 : 0 ≤ (x7_1 : Int) := od
            have q24 : x7_1 < (a0.size : Int) := od
            have hx24 := bt_at a0 x7_1
            replace p24 := eq_true p24
            replace q24 := eq_true q24
            go_wp2
            go_meet
            case rel => exact ⟨_, (x6_1), (by first | rfl | (simp; done) | (simp [*]; done)), H', ⟨by have := HK1.out; have := HJ2.out; first | omega | exact Nat.le_refl _⟩, ⟨kr HO_4.out⟩, ⟨bl HB.out⟩⟩
           ·rw [if_neg c25] at H
            have c25b0 : ((bt a0 x7_1) == 92) = false := beq_eq_false_iff_ne.mpr c25
            have c25b1 : ((bt a0 x7_1) != 92) = true := bne_iff_ne.mpr c25
            (first | rw [c25b0] | (simp only [i64_w, i32_w]; rw [c25b0]) | skip)
            have H' := ak H
            clear H
            have p24 : 0 ≤ (x7_1 : Int) := od
            have q24 : x7_1 < (a0.size : Int) := od
            have hx24 := bt_at a0 x7_1
            replace p24 := eq_true p24
            replace q24 := eq_true q24
            go_wp2
            go_meet
            case rel => exact ⟨_, (false), (by first | rfl | (simp; done) | (simp [*]; done)), H', ⟨by have := HK1.out; have := HJ2.out; first | omega | exact Nat.le_refl _⟩, ⟨kr HO_4.out⟩, ⟨bl HB.out⟩⟩
          case rest =>
           clear HC23
           try clear c1
           try clear c2
           try clear c2b0
           try clear p2
           try clear q2
           try clear hx2
           try clear c4
           try clear c4b0
           try clear c4b1
           try clear c5
           try clear c5b0
           try clear c6
           try clear c6b0
           try clear p6
           try clear p7
           try clear q7
           try clear hx7
           try clear c8
           try clear c8b0
           try clear c8b1
           try clear c9
           try clear c10
           try clear c10b0
           try clear c10b1
           try clear c11
           try clear c11b0
           try clear c11b1
           try clear c12
           try clear c12b0
           try clear c12b1
           try clear c14
           try clear c14b0
           try clear c14b1
           try clear c16
           try clear c17
           try clear c19
           try clear c19b0
           try clear c20
           try clear c20b0
           try clear p21
           try clear q21
           try clear hx21
           try clear c22
           try clear c22b0
           try clear c22b1
           try clear p24
           try clear q24
           try clear hx24
           try clear c25
           try clear c25b0
           try clear c25b1
           try clear p2
           try clear p21
           try clear p24
           try clear p7
           try clear q21
           try clear q24
           try clear q7
           obtain ⟨kq, x50_22, rfl, HA, HJ22, HO_4, HB⟩ := hcut
           cases kq with
           | zero => exact absurd HA.out (by simp [impl_listOf.j2])
           | succ kj22 =>
            have H := HA.out
            clear HA
            simp only [impl_listOf.j2] at H
            by_cases c26 : x50_22 = true
            ·subst c26
             rw [if_pos rfl] at H
             by_cases c27 : (wrap64 (x7_1 + 1)) = (a0.size : Int)
             ·rw [if_pos c27] at H
              have c27b0 : ((wrap64 (x7_1 + 1)) == (a0.size : Int)) = true := beq_iff_eq.mpr c27
              have c27b1 : ((wrap64 (x7_1 + 1)) != (a0.size : Int)) = false := bne_eq_false_iff_eq.mpr c27
              clear c27
              simp only [Option.some.injEq, Prod.mk.injEq] at H
              obtain ⟨rfl, rfl⟩ := H
              go_wp2
              go_ret2
              exact ⟨_, by first | rfl | (simp [errW_none, errW_some] <;> rfl) | (simp [*, errW_none, errW_some] <;> rfl), by first | exact Kd.R_nil _ _ _ _ _ | exact Kd.N_nil _ _ _ _ _ | exact Kd.V_nil _ _ _ _ _ | exact Kd.Q_nil _ _ _ _ _ | exact Kd.S_nil _ _ _ _ _, bl HB.out⟩
             ·rw [if_neg c27] at H
              have c27b0 : ((wrap64 (x7_1 + 1)) == (a0.size : Int)) = false := beq_eq_false_iff_ne.mpr c27
              have c27b1 : ((wrap64 (x7_1 + 1)) != (a0.size : Int)) = true := bne_iff_ne.mpr c27
              have H' := ak H
              clear H
              go_wp2
              go_roundg kj22
              case measure => have := HK1.out; have := HJ2.out; have := HJ22.out; omega
              case rel => exact ⟨(x4_1), (x5_1), (x6_1), (wrap64 ((wrap64 (x7_1 + 1)) + 1)), (by first | rfl | (simp; done) | (simp [*]; done)), (by first | rfl | (simp; done) | (simp [*]; done)), (by first | rfl | (simp; done) | (simp [*]; done)), H', ⟨by have := HK1.out; have := HJ2.out; have := HJ22.out; omega⟩, ⟨kr HO_4.out⟩, ⟨bl HB.out⟩⟩
            ·replace c26 := Bool.eq_false_iff.mpr c26
             subst c26
             rw [if_neg ff] at H
             have H' := ak H
             clear H
             go_wp2
             go_roundg kj22
             case measure => have := HK1.out; have := HJ2.out; have := HJ22.out; omega
             case rel => exact ⟨(x4_1), (x5_1), (x6_1), (wrap64 (x7_1 + 1)), (by first | rfl | (simp; done) | (simp [*]; done)), (by first | rfl | (simp; done) | (simp [*]; done)), (by first | rfl | (simp; done) | (simp [*]; done)), H', ⟨by have := HK1.out; have := HJ2.out; have := HJ22.out; omega⟩, ⟨kr HO_4.out⟩, ⟨bl HB.out⟩⟩
        ·rw [if_neg c20] at H
         exact absurd H (by simp)
       ·rw [if_neg c19] at H
        exact absurd H (by simp)
   ·rw [if_neg c2] at H
    have c2b0 := decide_eq_false c2
    clear c2
    simp only [Option.some.injEq, Prod.mk.injEq] at H
    obtain ⟨rfl, rfl⟩ := H
    go_wp2
    go_ret2
    exact ⟨_, by first | rfl | (simp [errW_none, errW_some] <;> rfl) | (simp [*, errW_none, errW_some] <;> rfl), kr HO_4.out, bl HB.out⟩

-- NOT PRINTED: function 258 (strconv_lower)

-- NOT PRINTED: function 259 (strconv_underscoreOK)

-- NOT PRINTED: function 255 (strconv_ParseUint)

-- NOT PRINTED: function 245 (strconv_ParseInt)

-- NOT PRINTED: function 235 (strconv_Atoi_235)

-- NOT PRINTED: function 256 (stringslite_Clone)

-- NOT PRINTED: function 246 (strconv_syntaxError)

-- NOT PRINTED: function 247 (strconv_rangeError)

-- NOT PRINTED: function 257 (errors_New)

-- NOT PRINTED: function 248 (strconv_baseError)

-- NOT PRINTED: function 249 (strconv_bitSizeError)

-- NOT PRINTED: function 236 (strconv_toError)

/-! ### strconv_Atoi: function 218 (the error: whether there is one) -/
def errV (tp : TypeId) (p : Value) : Option Int → Value
 | none => .nilIface
 | some _ => .iface tp p
theorem errV_none (tp : TypeId) (p : Value) : errV tp p none = .nilIface := rfl
theorem errV_some (tp : TypeId) (p : Value) (c : Int) : errV tp p (some c) = .iface tp p := rfl
def strconv_Atoi.f (a0 : ByteArray) : Option (Int × Option Int) := if a0.size ≤ 281474976710656 then some (atoiN a0, if atoiF a0 = true then some 0 else none) else none
theorem strconv_Atoi.calls (a0 : ByteArray) (r1 : Int) (r2 : Option Int) (w : World) (h : strconv_Atoi.f a0 = some (r1, r2)) (ht : Glob w) :
  Calls Tryz.prog 218 #[.string a0] w fun e w' => ∃ tp_ p_, e = .returned (.tuple #[.int .i64 r1, errV tp_ p_ r2]) ∧ Below w.heap.size w w' := by
 unfold strconv_Atoi.f at h
 split at h
 ·rename_i hs
  have h := Option.some.inj h
  simp only [Prod.mk.injEq] at h
  obtain ⟨rfl, h2⟩ := h
  refine (trAtoi a0 w hs ht).mono ?_
  rintro e w' ⟨tp, p, rfl, hb⟩
  refine ⟨tp, p, ?_, hb⟩
  rw [← h2]
  cases atoiF a0 <;> rfl
 ·cases h



/-! ### impl_areBytes_126: function 79 at the predicate 126 -/
def impl_areBytes_126.f (a0 : ByteArray) : Option Bool := if a0.size ≤ 9223372036854775807 then allO (fun x => impl_isDigit.f x) (bytesOf a0) else none
set_option maxHeartbeats 800000 in
set_option maxRecDepth 100000 in
theorem impl_areBytes_126.calls (a0 : ByteArray) (r : Bool) (w : World) (h : impl_areBytes_126.f a0 = some r) :
  Calls Tryz.prog 79 #[.string a0, .func (.func 126) #[] #[]] w fun e w' => e = .returned (.bool r) ∧ Below w.heap.size w w' := by
 unfold impl_areBytes_126.f at h
 split at h
 ·rename_i hm
  have HR := Kd.C_of_reads (d := (0 : Int)) (h1 := fun _ => rfl) (bytes_reads w 5 a0 hm)
  have HB := ak (bytes_below (Below.refl w.heap.size w) (Nat.le_refl _) 5 a0)
  have hcall := areAll_g124.all 126 (fun x => impl_isDigit.f x) (fun x r w h => by
   refine (impl_isDigit.calls x r w h).mono ?_
   rintro e w' ⟨rfl, hb⟩
   exact ⟨rfl, hb.below⟩) (enters_of Tryz.func126 (by kernel_rfl) rfl) (some ⟨w.heap.size, 0, none⟩) (grownCap w a0.size 0 5) (bytesOf a0) r (Lib.bytesWorld w 5 a0) (by rw [bytesOf_length]; exact HR) h
  rw [bytesOf_length] at hcall
  have HC := ak hcall
  clear h hcall HR
  have kb := fun W => print_bytes (P := Tryz.prog) 9 66 5 Tryz.underlying9 Tryz.underlying66 Tryz.underlying5 a0 W
  go_enter Tryz.func79, Tryz.ntmps79
  go_wp2_with (go_at_call 124; refine HC.out.mono ?_; rintro e w' ⟨rfl, hb⟩)
  go_ret
  exact ⟨rfl, below_then HB.out (by rw [Lib.bytesWorld_size]; omega) hb⟩
 ·cases h


end Go.Proofs.YtlmnmakkojgfnaaGreatDoor.PFnExactKeptFor
