-- written by a program of this session (wip/tool)
import Derived.Test.YtlmnmakkojgfnaaGreatDoorPFnExactKeptForx0
import Derived.Test.YtlmnmakkojgfnaaGreatDoorPFnExactKeptForx14
import Derived.Test.YtlmnmakkojgfnaaGreatDoorPFnExactKeptForx15
import Derived.Test.YtlmnmakkojgfnaaGreatDoorPFnExactKeptForx16
import Derived.Test.YtlmnmakkojgfnaaGreatDoorPFnExactKeptForx18
import Derived.Test.YtlmnmakkojgfnaaGreatDoorVOwn0
import Derived.Test.YtlmnmakkojgfnaaGreatDoorVOwnOpen
import Derived.WalkKit
import Derived.BigCall
import Derived.Test.YtlmnmakkojgfnaaGreatDoorOwnTr
import Derived.Test.YtlmnmakkojgfnaaGreatDoorVOwnShort
import Derived.Test.YtlmnmakkojgfnaaGreatDoorOwnSq
import Derived.Test.YtlmnmakkojgfnaaGreatDoorOwnIt
namespace Go.Proofs.YtlmnmakkojgfnaaGreatDoor.PFnExactKeptFor
open Go.RowKit Go.Proofs.YtlmnmakkojgfnaaGreatDoorW.PrintWords Go.Proofs.YtlmnmakkojgfnaaGreatDoorW.PrintLast Go.Proofs.YtlmnmakkojgfnaaGreatDoorW.PrintMore Go.Shelf Go.Proofs.YtlmnmakkojgfnaaGreatDoorOwn
attribute [local go_sem] max2_int min2_int max_two min_two max_three min_three max_four min_four   -- for this text's walks alone
set_option linter.unusedVariables false
set_option linter.unusedSimpArgs false

/-! ### impl_vary: function 98 -/
mutual
def impl_vary.j0 : Nat → List ByteArray → Bool → Option (List ByteArray × Bool × Bool)
 | 0, _, _ => none
 | k + 1, x5, x25 => if x25 = true then (some (([] : List ByteArray), false, false)) else (impl_vary.l0 k ([] : List ByteArray) false x5 (x5.length : Int) 0)
def impl_vary.l0 : Nat → List ByteArray → Bool → List ByteArray → Int → Int → Option (List ByteArray × Bool × Bool)
 | 0, _, _, _, _, _ => none
 | k + 1, x7, x8, x26, x27, x28 => if x28 < x27 then (if 0 ≤ x28 then (if x28 < (x26.length : Int) then (if (rdOf ByteArray.empty x26 x28).toList = ([42] : List UInt8) then (impl_vary.l0 k x7 true x26 x27 (wrap64 (x28 + 1))) else ((impl_small.f (rdOf ByteArray.empty x26 x28)).bind fun t493 => (if x7.length < 8796093022208 then (impl_vary.l0 k (x7 ++ [t493]) x8 x26 x27 (wrap64 (x28 + 1))) else (none)))) else (none)) else (none)) else (if x7.length < 4611686018427387904 then (some (uniqT x7, x8, true)) else none)
end
def impl_vary.f (k : Nat) (a0_0 : Int) (a0_1 : ByteArray) (l0_2 : List (S105)) (a0_3 : ByteArray) : Option (List ByteArray × Bool × Bool) := (impl_valuesOf.f k l0_2 (⟨#[118, 97, 114, 121]⟩ : ByteArray)).bind fun t483 => ((strings_Join.f t483 (⟨#[44, 32]⟩ : ByteArray)).bind fun t486 => ((impl_listOf.f k t486).bind fun bt487 => (if bt487.2 = true then ((impl_areAll_string__144.f bt487.1).bind fun t491 => (impl_vary.j0 k bt487.1 (!t491))) else (impl_vary.j0 k bt487.1 true))))
theorem impl_vary.mono_l : ∀ k, (∀ y0 y1, LeO (impl_vary.j0 k y0 y1) (impl_vary.j0 (k + 1) y0 y1)) ∧ (∀ y0 y1 y2 y3 y4, LeO (impl_vary.l0 k y0 y1 y2 y3 y4) (impl_vary.l0 (k + 1) y0 y1 y2 y3 y4))
 | 0 => ⟨fun _ _ r h => by simp [impl_vary.j0] at h, fun _ _ _ _ _ r h => by simp [impl_vary.l0] at h⟩
 | k + 1 => by
  obtain ⟨ih0, ih1⟩ := impl_vary.mono_l k
  refine ⟨?_, ?_⟩
  ·intro y0 y1
   unfold impl_vary.j0
   repeat' with_reducible first | exact ih0 _ _ | exact ih1 _ _ _ _ _ | exact impl_listOf.mono _ _ | exact impl_valuesOf.mono _ _ _ | exact LeO.refl _ | exact LeO.none _ | refine LeO.ite ?_ ?_ | refine LeO.bind ?_ (fun _ => ?_)
  ·intro y0 y1 y2 y3 y4
   unfold impl_vary.l0
   repeat' with_reducible first | exact ih0 _ _ | exact ih1 _ _ _ _ _ | exact impl_listOf.mono _ _ | exact impl_valuesOf.mono _ _ _ | exact LeO.refl _ | exact LeO.none _ | refine LeO.ite ?_ ?_ | refine LeO.bind ?_ (fun _ => ?_)
theorem impl_vary.mono : ∀ a0 a1 a2 a3 k, LeO (impl_vary.f k a0 a1 a2 a3) (impl_vary.f (k + 1) a0 a1 a2 a3) := by
 intro a0 a1 a2 a3 k
 obtain ⟨ih0, ih1⟩ := impl_vary.mono_l k
 unfold impl_vary.f
 repeat' with_reducible first | exact ih0 _ _ | exact ih1 _ _ _ _ _ | exact impl_listOf.mono _ _ | exact impl_valuesOf.mono _ _ _ | exact LeO.refl _ | exact LeO.none _ | refine LeO.ite ?_ ?_ | refine LeO.bind ?_ (fun _ => ?_)
set_option maxHeartbeats 8000000 in
set_option maxRecDepth 100000 in
theorem impl_vary.calls (k : Nat) (a0_0 : Int) (a0_1 : ByteArray) (A0_2 : Option Addr) (c0_2 : Nat) (l0_2 : List (S105)) (a0_3 : ByteArray) (r1 : List ByteArray) (r2 : Bool) (r3 : Bool) (w : World) (hr0_2 : Kd.C k105 w A0_2 l0_2.length l0_2) (hc0_2 : l0_2.length ≤ c0_2) (h : impl_vary.f k a0_0 a0_1 l0_2 a0_3 = some (r1, r2, r3)) :
  Calls Tryz.prog 98 #[.agg #[.int .i64 a0_0, .string a0_1, .slice A0_2 l0_2.length c0_2, .string a0_3]] w fun e w' => ∃ v0_ : Value, e = .returned (.tuple #[v0_, .bool r2, .bool r3]) ∧ Kd.R Kd.string 9 w' w.heap.size (fun _ => True) v0_ r1 ∧ Below w.heap.size w w' := by
 have hu57 := Tryz.underlying57
 have HR0_2 := ak hr0_2
 have HC0_2 := ak hc0_2
 clear hr0_2 hc0_2
 have HB := ak (Below.refl w.heap.size w)
 unfold impl_vary.f at h; have H := h
 clear h
 replace H := bs H
 obtain ⟨t483, A2, H⟩ := H
 try dsimp only at H
 replace H := bs H
 obtain ⟨t486, A3, H⟩ := H
 try dsimp only at H
 replace H := bs H
 obtain ⟨⟨t487, t488⟩, A4, H⟩ := H
 try dsimp only at H
 have HC5 := ak H
 clear H
 go_enter Tryz.func98, Tryz.ntmps98
 go_upto_region 2 with (first | ((with_reducible refine gd 1 ?_); refine bE 1 #[.int .i64 a0_0, .string a0_1, .slice A0_2 l0_2.length c0_2, .string a0_3] 57 ?_; intro gb482 hg w6 hbox hb; have BK482 := ak hbox; have GW482 := gs hg (bl HB.out); have GE482 := gs hg (bl HB.out); replace HB := ak (below_step (bl HB.out) hb); clear hb hbox hg; obtain ⟨_, _, _, _, _, _, _, _⟩ := b4 BK482.out) | ((with_reducible refine gc 116 ?_); refine gL 116 Tryz.func116 (some 14) #[.slice A0_2 l0_2.length c0_2, .string (⟨#[118, 97, 114, 121]⟩ : ByteArray)] ?_; (with_reducible refine (impl_valuesOf.calls k _ _ l0_2 (⟨#[118, 97, 114, 121]⟩ : ByteArray) t483 _ ?side1 ?side2 A2.out).mono ?_); (case side1 => exact kc (Kd.C_below HR0_2.out HB.out)); (case side2 => exact HC0_2.out); rintro e w8 ⟨v484, rfl, ho0, hb⟩; refine ⟨_, rfl, ?_⟩; have HO485 := ak (Kd.R_lower ho0 (below_size (bl1 HB.out GE482.out))); replace BK482 := ak (blk_below (bk BK482.out) hb); replace HB := ak (below_step (bl1 HB.out GE482.out) hb); clear hb ho0; obtain ⟨Ao9, co9, eo9⟩ := Kd.R_slice HO485.out; subst eo9) | ((with_reducible refine gc 117 ?_); refine gL 117 Tryz.func117 (some 15) #[.slice Ao9 t483.length co9, .string (⟨#[44, 32]⟩ : ByteArray)] ?_; (with_reducible refine (strings_Join.calls _ _ t483 (⟨#[44, 32]⟩ : ByteArray) t486 _ ?side1 ?side2 A3.out).mono ?_); (case side1 => exact kc (Kd.R_reads' HO485.out).2.2); (case side2 => exact (Kd.R_reads' HO485.out).2.1); rintro e w10 ⟨rfl, hb⟩; refine ⟨_, rfl, ?_⟩; replace HO485 := ak (Kd.R_below (kr HO485.out) hb); replace BK482 := ak (blk_below (bk BK482.out) hb); replace HB := ak (below_step (bl1 HB.out GE482.out) hb); clear hb) | ((with_reducible refine gc 143 ?_); refine gL 143 Tryz.func143 (some 16) #[.string t486] ?_; (with_reducible refine (impl_listOf.calls k t486 t487 t488 _ A4.out).mono ?_); rintro e w11 ⟨v489, rfl, ho0, hb⟩; refine ⟨_, rfl, ?_⟩; have HO490 := ak (Kd.R_lower (Kd.R_new' ho0 (Kd.R_lt (kr HO485.out))) (below_size (bl1 HB.out GE482.out))); replace HO485 := ak (Kd.R_elder' (kr HO485.out) (Kd.R_base ho0) hb); replace BK482 := ak (blk_below (bk BK482.out) hb); replace HB := ak (below_step (bl1 HB.out GE482.out) hb); clear hb ho0))
 (try simp only [Act.put, List.setIfInBounds_toArray, List.set_cons_zero, List.set_cons_succ])
 go_cut [25] (fun v25 wc => ∃ (kq : Nat) (x25_4 : Bool), v25 = .bool x25_4 ∧ Aside0 (impl_vary.j0 kq t487 x25_4 = some (r1, r2, r3)) ∧ Aside0 (kq ≤ k) ∧ Aside0 (Kd.R Kd.string 9 wc w.heap.size (fun _ => True) v489 t487) ∧ Aside0 (wc.heap[gb482]? = some (.cells #[.int .i64 a0_0, .string a0_1, (.slice A0_2 l0_2.length c0_2), .string a0_3] 57 (0, 0))) ∧ Aside0 (Below w.heap.size w wc))
 case first =>
  have H := HC5.out
  clear HC5
  by_cases c12 : t488 = true
  ·subst c12
   rw [if_pos rfl] at H
   replace H := bs H
   obtain ⟨t491, A13, H⟩ := H
   try dsimp only at H
   have H' := ak H
   clear H
   obtain ⟨Ao14, co14, eo14⟩ := Kd.R_slice HO490.out
   subst eo14
   go_wp2_with (first | (go_at_call 114; (with_reducible refine (impl_areAll_string__144.calls _ _ t487  t491 _ ?side1 ?side2 A13.out).mono ?_); (case side1 => exact kc (Kd.R_reads' HO490.out).2.2); (case side2 => exact (Kd.R_reads' HO490.out).2.1); rintro e w15 ⟨rfl, hb⟩; replace HO485 := ak (Kd.R_below (kr HO485.out) hb); replace HO490 := ak (Kd.R_below (kr HO490.out) hb); replace BK482 := ak (blk_below (bk BK482.out) hb); replace HB := ak (below_step (bl1 HB.out GE482.out) hb); clear hb))
   go_meet
   case rel => exact ⟨_, (!t491), (by first | rfl | (simp; done) | (simp [*]; done)), H', ⟨by first | omega | exact Nat.le_refl _⟩, ⟨by (with_reducible repeat (first | apply Kd.R_alloc | apply Kd.R_drewN | apply Kd.R_drew)); exact Kd.R_mono HO490.out (fun _ hk => trivial)⟩, ⟨bk BK482.out⟩, ⟨bl1 HB.out GE482.out⟩⟩
  ·replace c12 := Bool.eq_false_iff.mpr c12
   subst c12
   rw [if_neg ff] at H
   have H' := ak H
   clear H
   go_wp2
   go_meet
   case rel => exact ⟨_, (true), (by first | rfl | (simp; done) | (simp [*]; done)), H', ⟨by first | omega | exact Nat.le_refl _⟩, ⟨by (with_reducible repeat (first | apply Kd.R_alloc | apply Kd.R_drewN | apply Kd.R_drew)); exact Kd.R_mono HO490.out (fun _ hk => trivial)⟩, ⟨bk BK482.out⟩, ⟨bl1 HB.out GE482.out⟩⟩
 case rest =>
  clear HC5
  try clear c1
  try clear p2
  try clear c9
  try clear c11
  try clear c12
  try clear c14
  try clear hcz7_0
  try clear hcz7_1
  try clear hcz7_2
  try clear hcz7_3
  try clear hfz7_0
  try clear hfz7_1
  try clear hfz7_2
  try clear hfz7_3
  obtain ⟨kq, x25_4, rfl, HA, HJ4, HO_5, BK482, HB⟩ := hcut
  cases kq with
  | zero => exact absurd HA.out (by simp [impl_vary.j0])
  | succ kj4 =>
   have H := HA.out
   clear HA
   simp only [impl_vary.j0] at H
   by_cases c16 : x25_4 = true
   ·subst c16
    rw [if_pos rfl] at H
    simp only [Option.some.injEq, Prod.mk.injEq] at H
    obtain ⟨rfl, rfl, rfl⟩ := H
    go_wp2
    go_ret3
    exact ⟨_, by first | rfl | (simp [errW_none, errW_some] <;> rfl) | (simp [*, errW_none, errW_some] <;> rfl), by first | exact Kd.R_nil _ _ _ _ _ | exact Kd.N_nil _ _ _ _ _ | exact Kd.V_nil _ _ _ _ _ | exact Kd.Q_nil _ _ _ _ _ | exact Kd.S_nil _ _ _ _ _, bl1 HB.out GE482.out⟩
   ·replace c16 := Bool.eq_false_iff.mpr c16
    subst c16
    rw [if_neg ff] at H
    have H' := ak H
    clear H
    obtain ⟨Ao17, co17, eo17⟩ := Kd.R_slice HO_5.out
    subst eo17
    go_wp2
    go_loopg [7, 8, 28] kj4 (fun kq v7 v8 v28 w' => ∃ (x7_2 : List ByteArray) (x8_2 : Bool) (x28_2 : Int), v8 = .bool x8_2 ∧ v28 = .int .i64 x28_2 ∧ Aside0 (impl_vary.l0 kq x7_2 x8_2 t487 (t487.length : Int) x28_2 = some (r1, r2, r3)) ∧ Aside0 (kq ≤ kj4) ∧ Aside0 (Kd.R Kd.string 9 w' w.heap.size (fun k_ => some k_ ≠ ((.slice Ao17 t487.length co17) : Value).ownBlock) v7 x7_2) ∧ Aside0 (Kd.R Kd.string 9 w' w.heap.size (fun k_ => some k_ ≠ (v7 : Value).ownBlock) (.slice Ao17 t487.length co17) t487) ∧ Aside0 (w'.heap[gb482]? = some (.cells #[.int .i64 a0_0, .string a0_1, (.slice A0_2 l0_2.length c0_2), .string a0_3] 57 (0, 0))) ∧ Aside0 (Below w.heap.size w w'))
    case atStart => exact ⟨(([] : List ByteArray)), (false), (0), (by first | rfl | (simp; done) | (simp [*]; done)), (by first | rfl | (simp; done) | (simp [*]; done)), H', ⟨Nat.le_refl _⟩, ⟨by first | exact Kd.R_nil _ _ _ _ _ | exact Kd.N_nil _ _ _ _ _ | exact Kd.V_nil _ _ _ _ _ | exact Kd.Q_nil _ _ _ _ _ | exact Kd.S_nil _ _ _ _ _⟩, ⟨by (with_reducible repeat (first | apply Kd.R_alloc | apply Kd.R_drewN | apply Kd.R_drew)); exact Kd.R_mono HO_5.out (fun _ hk => (by simp [Value.ownBlock]))⟩, ⟨bk BK482.out⟩, ⟨bl1 HB.out GE482.out⟩⟩
    case round =>
     clear H'
     try clear c1
     try clear p2
     try clear c9
     try clear c11
     try clear c12
     try clear c14
     try clear c16
     try clear hcz7_0
     try clear hcz7_1
     try clear hcz7_2
     try clear hcz7_3
     try clear hfz7_0
     try clear hfz7_1
     try clear hfz7_2
     try clear hfz7_3
     try clear p2
     obtain ⟨x7_2, x8_2, x28_2, rfl, rfl, HA, HK2, HO_7, HO_26, BK482, HB⟩ := hrel
     cases gk with
     | zero => exact absurd HA.out (by simp [impl_vary.l0])
     | succ k2 =>
      have H := HA.out
      clear HA
      simp only [impl_vary.l0] at H
      by_cases c18 : x28_2 < (t487.length : Int)
      ·rw [if_pos c18] at H
       have c18b0 := decide_eq_true c18
       clear c18
       by_cases c19 : 0 ≤ x28_2
       ·rw [if_pos c19] at H
        have c19b0 := decide_eq_true c19
        clear c19
        by_cases c20 : x28_2 < (t487.length : Int)
        ·rw [if_pos c20] at H
         have c20b0 := decide_eq_true c20
         clear c20
         by_cases c21 : (rdOf ByteArray.empty t487 x28_2).toList = ([42] : List UInt8)
         ·rw [if_pos c21] at H
          have c21b0 : ((rdOf ByteArray.empty t487 x28_2).toList == ([42] : List UInt8)) = true := beq_iff_eq.mpr c21
          have c21b1 : ((rdOf ByteArray.empty t487 x28_2).toList != ([42] : List UInt8)) = false := bne_eq_false_iff_eq.mpr c21
          clear c21
          have H' := ak H
          clear H
          have p492 : 0 ≤ (x28_2 : Int) := od
          have q492 : x28_2 < (t487.length : Int) := od
          obtain ⟨ad492, e492, hx492_0⟩ := Kd.at_string (Kd.R_reads' HO_26.out).2.2 x28_2 p492 q492
          cases e492
          replace p492 := eq_true p492
          replace q492 := eq_true q492
          go_wp2
          go_roundg k2
          case measure => have := HJ4.out; have := HK2.out; omega
          case rel => exact ⟨(x7_2), (true), (wrap64 (x28_2 + 1)), (by first | rfl | (simp; done) | (simp [*]; done)), (by first | rfl | (simp; done) | (simp [*]; done)), H', ⟨by have := HJ4.out; have := HK2.out; omega⟩, ⟨kr HO_7.out⟩, ⟨kr HO_26.out⟩, ⟨bk BK482.out⟩, ⟨bl1 HB.out GE482.out⟩⟩
         ·rw [if_neg c21] at H
          have c21b0 : ((rdOf ByteArray.empty t487 x28_2).toList == ([42] : List UInt8)) = false := beq_eq_false_iff_ne.mpr c21
          have c21b1 : ((rdOf ByteArray.empty t487 x28_2).toList != ([42] : List UInt8)) = true := bne_iff_ne.mpr c21
          replace H := bs H
          obtain ⟨t493, A22, H⟩ := H
          try dsimp only at H
          by_cases c23 : x7_2.length < 8796093022208
          ·rw [if_pos c23] at H
           have LMc23 := ak c23
           clear c23
           obtain ⟨y494, hy494⟩ : ∃ y_ : List ByteArray, y_ = (x7_2 ++ [t493]) := ⟨_, rfl⟩
           replace H : (impl_vary.l0 k2 y494 x8_2 t487 (t487.length : Int) (wrap64 (x28_2 + 1))) = some (r1, r2, r3) := by first | (rw [hy494]; with_reducible exact H) | (have H2_ := (Option.bind_some _ _).symm.trans H; rw [hy494]; with_reducible exact H2_) | (have H2_ := (Option.bind_some _ _).symm.trans H; with_reducible exact H2_) | with_reducible exact H | (rw [hy494]; exact H) | exact H
           have Ny494 := ak hy494
           clear hy494
           have H' := ak H
           clear H
           have p492 : 0 ≤ (x28_2 : Int) := od
           have q492 : x28_2 < (t487.length : Int) := od
           obtain ⟨ad492, e492, hx492_0⟩ := Kd.at_string (Kd.R_reads' HO_26.out).2.2 x28_2 p492 q492
           cases e492
           replace p492 := eq_true p492
           replace q492 := eq_true q492
           go_wp2_with (first | ((with_reducible refine gc 145 ?_); refine gL 145 Tryz.func145 (some 36) #[.string (rdOf ByteArray.empty t487 x28_2)] ?_; (with_reducible refine (impl_small.calls (rdOf ByteArray.empty t487 x28_2) t493 _ A22.out).mono ?_); rintro e w24 ⟨rfl, hb⟩; refine ⟨_, rfl, ?_⟩; replace HO_7 := ak (Kd.R_below (kr HO_7.out) hb); replace HO_26 := ak (Kd.R_below (kr HO_26.out) hb); replace BK482 := ak (blk_below (bk BK482.out) hb); replace HB := ak (below_step (bl1 HB.out GE482.out) hb); clear hb) | ((with_reducible refine gate_builtin (b := .append) (xs := #[.tmp 34, .tmp 37]) rfl ?_); at_builtin; refine Kd.R_append Kd.string (w0 := w) w.heap.size rfl (.tmp 34) (.tmp 37) 114 9 (.string ⟨#[]⟩) 16 rfl Tryz.underlying114 info9 rfl (by decide) (by omega) u7 x7_2 t493 [.string t493] (fun k_ => some k_ ≠ (.slice (some ad492) t487.length co17 : Value).ownBlock) (fun _ => False) rfl rfl ?aP (fun _ hk => hk.elim) ?aF ?aO ?aB ?aS ?aL ?_; (case aP => exact rfl); (case aB => exact (bl1 HB.out GE482.out)); (case aF => exact (fun k_ hk => Kd.fresh' (Kd.R_lt (kr HO_26.out)) k_ hk)); (case aO => exact (kr HO_7.out)); (case aS => exact (below_size (bl1 HB.out GE482.out))); (case aL => have := LMc23.out; omega); intro v495 w25 ho hb hg hat; rw [← Ny494.out] at ho; replace HO_26 := ak (Kd.R_after (ok := (fun _ => True)) (by (with_reducible repeat (first | apply Kd.R_alloc | apply Kd.R_drewN | apply Kd.R_drew)); exact Kd.R_mono HO_26.out (fun _ hk => ⟨trivial, hk⟩)) hg hat); replace BK482 := ak (blk_grown (bk BK482.out) hg (Kd.R_ne HO_7.out BK482.out (by decide))); replace HB := ak hb; have HO496 := ak ho; clear HO_7; clear ho hb hg hat))
           go_roundg k2
           case measure => have := HJ4.out; have := HK2.out; omega
           case rel => exact ⟨(y494), (x8_2), (wrap64 (x28_2 + 1)), (by first | rfl | (simp; done) | (simp [*]; done)), (by first | rfl | (simp; done) | (simp [*]; done)), H', ⟨by have := HJ4.out; have := HK2.out; omega⟩, ⟨kr HO496.out⟩, ⟨by (with_reducible repeat (first | apply Kd.R_alloc | apply Kd.R_drewN | apply Kd.R_drew)); exact Kd.R_mono HO_26.out (fun _ hk => hk.2)⟩, ⟨bk BK482.out⟩, ⟨bl1 HB.out GE482.out⟩⟩
          ·rw [if_neg c23] at H
           exact absurd H (by simp)
        ·rw [if_neg c20] at H
         exact absurd H (by simp)
       ·rw [if_neg c19] at H
        exact absurd H (by simp)
      ·rw [if_neg c18] at H
       have c18b0 := decide_eq_false c18
       clear c18
       by_cases cz : x7_2.length < 4611686018427387904
       rotate_left
       ·rw [if_neg cz] at H
        exact absurd H (by simp)
       rw [if_pos cz] at H
       simp only [Option.some.injEq, Prod.mk.injEq] at H
       obtain ⟨rfl, rfl, rfl⟩ := H
       have LZ := ak cz
       clear cz
       obtain ⟨A7_, c7_, e7_⟩ := Kd.R_slice HO_7.out
       subst e7_
       go_wp2_with (first | (go_at_call 146; refine (itSorted w.heap.size _ A7_ c7_ x7_2 _ HO_7.out LZ.out).mono ?_; rintro e ws ⟨rfl, ho, hb⟩; have HOs := ak ho; have HBs := ak (HB.out.trans hb); clear ho hb) | (go_at_call 147; refine (itCompact w.heap.size _ A7_ c7_ x7_2 _ HOs.out LZ.out).mono ?_; rintro e wc ⟨vc, rfl, ho, hb⟩; have HOc := ak ho; have HBc := ak (HBs.out.trans hb); clear ho hb))
       go_ret3
       exact ⟨_, rfl, Kd.R_mono HOc.out (fun _ _ => trivial), HBc.out⟩

/-! ### impl_isItem: function 57 -/
def impl_isItem.f (k : Nat) (a0_0 : ByteArray) (l0_1 : List (S105)) (a0_2 : Int) (a0_3 : ByteArray) (l0_4 : List (S105)) (a0_5 : ByteArray) (a0_6 : Int) (a0_7 : Int) : Option (Bool) := if (a0_0.size : Int) > 200 then (some false) else ((impl_areFields.f l0_1).bind fun t498 => (if t498 = true then ((impl_GoodKept.f k a0_2 a0_3 l0_4 a0_5 a0_6 a0_7).bind fun t499 => (if t499 = true then ((impl_vary.f k a0_2 a0_3 l0_4 a0_5).bind fun bt500 => (if bt500.2.2 = true then (some (!bt500.2.1)) else (some false))) else (some false))) else (some false)))
theorem impl_isItem.mono : ∀ a0 a1 a2 a3 a4 a5 a6 a7 k, LeO (impl_isItem.f k a0 a1 a2 a3 a4 a5 a6 a7) (impl_isItem.f (k + 1) a0 a1 a2 a3 a4 a5 a6 a7) := by
 intro a0 a1 a2 a3 a4 a5 a6 a7 k
 unfold impl_isItem.f
 repeat' with_reducible first | exact impl_GoodKept.mono _ _ _ _ _ _ _ | exact impl_vary.mono _ _ _ _ _ | exact LeO.refl _ | exact LeO.none _ | refine LeO.ite ?_ ?_ | refine LeO.bind ?_ (fun _ => ?_)
set_option maxHeartbeats 8000000 in
set_option maxRecDepth 100000 in
theorem impl_isItem.calls (k : Nat) (a0_0 : ByteArray) (A0_1 : Option Addr) (c0_1 : Nat) (l0_1 : List (S105)) (a0_2 : Int) (a0_3 : ByteArray) (A0_4 : Option Addr) (c0_4 : Nat) (l0_4 : List (S105)) (a0_5 : ByteArray) (a0_6 : Int) (a0_7 : Int) (r : Bool) (w : World) (hr0_1 : Kd.C k105 w A0_1 l0_1.length l0_1) (hc0_1 : l0_1.length ≤ c0_1) (hr0_4 : Kd.C k105 w A0_4 l0_4.length l0_4) (hc0_4 : l0_4.length ≤ c0_4) (h : impl_isItem.f k a0_0 l0_1 a0_2 a0_3 l0_4 a0_5 a0_6 a0_7 = some r) (ht : Glob w) :
  Calls Tryz.prog 57 #[.agg #[.string a0_0, .slice A0_1 l0_1.length c0_1, .int .i64 a0_2, .string a0_3, .slice A0_4 l0_4.length c0_4, .string a0_5, .int .i64 a0_6, .int .i64 a0_7]] w fun e w' => e = .returned (.bool r) ∧ Below w.heap.size w w' := by
 have hu61 := Tryz.underlying61
 have hu59 := Tryz.underlying59
 have hu57 := Tryz.underlying57
 have HR0_1 := ak hr0_1
 have HC0_1 := ak hc0_1
 clear hr0_1 hc0_1
 have HR0_4 := ak hr0_4
 have HC0_4 := ak hc0_4
 clear hr0_4 hc0_4
 have HT := ak ht
 clear ht
 have HB := ak (Below.refl w.heap.size w)
 unfold impl_isItem.f at h; have H := h
 clear h
 by_cases c2 : (a0_0.size : Int) > 200
 ·rw [if_pos c2] at H
  have c2b0 : decide (200 < (a0_0.size : Int)) = true := decide_eq_true c2
  have c2b1 : decide (200 < a0_0.size) = true := decide_eq_true (by omega)
  clear c2
  obtain rfl := Option.some.inj H
  go_enter Tryz.func57, Tryz.ntmps57
  go_wp2_with (first | ((with_reducible refine gd 1 ?_); refine bE 1 #[.string a0_0, .slice A0_1 l0_1.length c0_1, .int .i64 a0_2, .string a0_3, .slice A0_4 l0_4.length c0_4, .string a0_5, .int .i64 a0_6, .int .i64 a0_7] 61 ?_; intro gb497 hg w3 hbox hb; have BK497 := ak hbox; have GW497 := gs hg (bl HB.out); have GE497 := gs hg (bl HB.out); replace HB := ak (below_step (bl HB.out) hb); clear hb hbox hg; obtain ⟨_, _, _, _, _, _, _, _, _, _, _, _, _, _, _, _⟩ := b8 BK497.out))
  go_ret
  exact rz (bl1 HB.out GE497.out)
 ·rw [if_neg c2] at H
  have c2b0 : decide (200 < (a0_0.size : Int)) = false := decide_eq_false c2
  have c2b1 : decide (200 < a0_0.size) = false := decide_eq_false (by omega)
  clear c2
  replace H := bs H
  obtain ⟨t498, A5, H⟩ := H
  try dsimp only at H
  by_cases c6 : t498 = true
  ·subst c6
   rw [if_pos rfl] at H
   replace H := bs H
   obtain ⟨t499, A7, H⟩ := H
   try dsimp only at H
   by_cases c8 : t499 = true
   ·subst c8
    rw [if_pos rfl] at H
    replace H := bs H
    obtain ⟨⟨t500, t503, t504⟩, A9, H⟩ := H
    try dsimp only at H
    by_cases c10 : t504 = true
    ·subst c10
     rw [if_pos rfl] at H
     obtain rfl := Option.some.inj H
     go_enter Tryz.func57, Tryz.ntmps57
     go_wp2_with (first | ((with_reducible refine gd 1 ?_); refine bE 1 #[.string a0_0, .slice A0_1 l0_1.length c0_1, .int .i64 a0_2, .string a0_3, .slice A0_4 l0_4.length c0_4, .string a0_5, .int .i64 a0_6, .int .i64 a0_7] 61 ?_; intro gb497 hg w11 hbox hb; have BK497 := ak hbox; have GW497 := gs hg (bl HB.out); have GE497 := gs hg (bl HB.out); replace HB := ak (below_step (bl HB.out) hb); clear hb hbox hg; obtain ⟨_, _, _, _, _, _, _, _, _, _, _, _, _, _, _, _⟩ := b8 BK497.out) | (go_at_call 96; (with_reducible refine (impl_areFields.calls _ _ l0_1 true _ ?side1 ?side2 A5.out).mono ?_); (case side1 => exact kc (Kd.C_below HR0_1.out HB.out)); (case side2 => exact HC0_1.out); rintro e w13 ⟨rfl, hb⟩; replace BK497 := ak (blk_below (bk BK497.out) hb); replace HB := ak (below_step (bl1 HB.out GE497.out) hb); clear hb; obtain ⟨_, _, _, _, _, _, _, _, _, _, _, _, _, _, _, _⟩ := b8 BK497.out) | (go_at_call 97; (with_reducible refine (impl_GoodKept.calls k a0_2 a0_3 _ _ l0_4 a0_5 a0_6 a0_7 true _ ?side1 ?side2 A7.out (globg HT.out (bl1 HB.out GE497.out))).mono ?_); (case side1 => exact kc (Kd.C_below HR0_4.out HB.out)); (case side2 => exact HC0_4.out); rintro e w15 ⟨rfl, hb⟩; replace BK497 := ak (blk_below (bk BK497.out) hb); replace HB := ak (below_step (bl1 HB.out GE497.out) hb); clear hb; obtain ⟨_, _, _, _, _, _, _, _, _, _, _, _, _, _, _, _⟩ := b8 BK497.out) | ((with_reducible refine gc 98 ?_); refine gL 98 Tryz.func98 (some 26) #[.agg #[.int .i64 a0_2, .string a0_3, .slice A0_4 l0_4.length c0_4, .string a0_5]] ?_; (with_reducible refine (impl_vary.calls k a0_2 a0_3 _ _ l0_4 a0_5 t500 t503 true _ ?side1 ?side2 A9.out).mono ?_); (case side1 => exact kc (Kd.C_below HR0_4.out HB.out)); (case side2 => exact HC0_4.out); rintro e w17 ⟨v501, rfl, ho0, hb⟩; refine ⟨_, rfl, ?_⟩; have HO502 := ak (Kd.R_lower ho0 (below_size (bl1 HB.out GE497.out))); replace BK497 := ak (blk_below (bk BK497.out) hb); replace HB := ak (below_step (bl1 HB.out GE497.out) hb); clear hb ho0))
     go_ret
     exact rz (bl1 HB.out GE497.out)
    ·replace c10 := Bool.eq_false_iff.mpr c10
     subst c10
     rw [if_neg ff] at H
     obtain rfl := Option.some.inj H
     go_enter Tryz.func57, Tryz.ntmps57
     go_wp2_with (first | ((with_reducible refine gd 1 ?_); refine bE 1 #[.string a0_0, .slice A0_1 l0_1.length c0_1, .int .i64 a0_2, .string a0_3, .slice A0_4 l0_4.length c0_4, .string a0_5, .int .i64 a0_6, .int .i64 a0_7] 61 ?_; intro gb497 hg w18 hbox hb; have BK497 := ak hbox; have GW497 := gs hg (bl HB.out); have GE497 := gs hg (bl HB.out); replace HB := ak (below_step (bl HB.out) hb); clear hb hbox hg; obtain ⟨_, _, _, _, _, _, _, _, _, _, _, _, _, _, _, _⟩ := b8 BK497.out) | (go_at_call 96; (with_reducible refine (impl_areFields.calls _ _ l0_1 true _ ?side1 ?side2 A5.out).mono ?_); (case side1 => exact kc (Kd.C_below HR0_1.out HB.out)); (case side2 => exact HC0_1.out); rintro e w20 ⟨rfl, hb⟩; replace BK497 := ak (blk_below (bk BK497.out) hb); replace HB := ak (below_step (bl1 HB.out GE497.out) hb); clear hb; obtain ⟨_, _, _, _, _, _, _, _, _, _, _, _, _, _, _, _⟩ := b8 BK497.out) | (go_at_call 97; (with_reducible refine (impl_GoodKept.calls k a0_2 a0_3 _ _ l0_4 a0_5 a0_6 a0_7 true _ ?side1 ?side2 A7.out (globg HT.out (bl1 HB.out GE497.out))).mono ?_); (case side1 => exact kc (Kd.C_below HR0_4.out HB.out)); (case side2 => exact HC0_4.out); rintro e w22 ⟨rfl, hb⟩; replace BK497 := ak (blk_below (bk BK497.out) hb); replace HB := ak (below_step (bl1 HB.out GE497.out) hb); clear hb; obtain ⟨_, _, _, _, _, _, _, _, _, _, _, _, _, _, _, _⟩ := b8 BK497.out) | ((with_reducible refine gc 98 ?_); refine gL 98 Tryz.func98 (some 26) #[.agg #[.int .i64 a0_2, .string a0_3, .slice A0_4 l0_4.length c0_4, .string a0_5]] ?_; (with_reducible refine (impl_vary.calls k a0_2 a0_3 _ _ l0_4 a0_5 t500 t503 false _ ?side1 ?side2 A9.out).mono ?_); (case side1 => exact kc (Kd.C_below HR0_4.out HB.out)); (case side2 => exact HC0_4.out); rintro e w24 ⟨v501, rfl, ho0, hb⟩; refine ⟨_, rfl, ?_⟩; have HO502 := ak (Kd.R_lower ho0 (below_size (bl1 HB.out GE497.out))); replace BK497 := ak (blk_below (bk BK497.out) hb); replace HB := ak (below_step (bl1 HB.out GE497.out) hb); clear hb ho0))
     go_ret
     exact rz (bl1 HB.out GE497.out)
   ·replace c8 := Bool.eq_false_iff.mpr c8
    subst c8
    rw [if_neg ff] at H
    obtain rfl := Option.some.inj H
    go_enter Tryz.func57, Tryz.ntmps57
    go_wp2_with (first | ((with_reducible refine gd 1 ?_); refine bE 1 #[.string a0_0, .slice A0_1 l0_1.length c0_1, .int .i64 a0_2, .string a0_3, .slice A0_4 l0_4.length c0_4, .string a0_5, .int .i64 a0_6, .int .i64 a0_7] 61 ?_; intro gb497 hg w25 hbox hb; have BK497 := ak hbox; have GW497 := gs hg (bl HB.out); have GE497 := gs hg (bl HB.out); replace HB := ak (below_step (bl HB.out) hb); clear hb hbox hg; obtain ⟨_, _, _, _, _, _, _, _, _, _, _, _, _, _, _, _⟩ := b8 BK497.out) | (go_at_call 96; (with_reducible refine (impl_areFields.calls _ _ l0_1 true _ ?side1 ?side2 A5.out).mono ?_); (case side1 => exact kc (Kd.C_below HR0_1.out HB.out)); (case side2 => exact HC0_1.out); rintro e w27 ⟨rfl, hb⟩; replace BK497 := ak (blk_below (bk BK497.out) hb); replace HB := ak (below_step (bl1 HB.out GE497.out) hb); clear hb; obtain ⟨_, _, _, _, _, _, _, _, _, _, _, _, _, _, _, _⟩ := b8 BK497.out) | (go_at_call 97; (with_reducible refine (impl_GoodKept.calls k a0_2 a0_3 _ _ l0_4 a0_5 a0_6 a0_7 false _ ?side1 ?side2 A7.out (globg HT.out (bl1 HB.out GE497.out))).mono ?_); (case side1 => exact kc (Kd.C_below HR0_4.out HB.out)); (case side2 => exact HC0_4.out); rintro e w29 ⟨rfl, hb⟩; replace BK497 := ak (blk_below (bk BK497.out) hb); replace HB := ak (below_step (bl1 HB.out GE497.out) hb); clear hb))
    go_ret
    exact rz (bl1 HB.out GE497.out)
  ·replace c6 := Bool.eq_false_iff.mpr c6
   subst c6
   rw [if_neg ff] at H
   obtain rfl := Option.some.inj H
   go_enter Tryz.func57, Tryz.ntmps57
   go_wp2_with (first | ((with_reducible refine gd 1 ?_); refine bE 1 #[.string a0_0, .slice A0_1 l0_1.length c0_1, .int .i64 a0_2, .string a0_3, .slice A0_4 l0_4.length c0_4, .string a0_5, .int .i64 a0_6, .int .i64 a0_7] 61 ?_; intro gb497 hg w30 hbox hb; have BK497 := ak hbox; have GW497 := gs hg (bl HB.out); have GE497 := gs hg (bl HB.out); replace HB := ak (below_step (bl HB.out) hb); clear hb hbox hg; obtain ⟨_, _, _, _, _, _, _, _, _, _, _, _, _, _, _, _⟩ := b8 BK497.out) | (go_at_call 96; (with_reducible refine (impl_areFields.calls _ _ l0_1 false _ ?side1 ?side2 A5.out).mono ?_); (case side1 => exact kc (Kd.C_below HR0_1.out HB.out)); (case side2 => exact HC0_1.out); rintro e w32 ⟨rfl, hb⟩; replace BK497 := ak (blk_below (bk BK497.out) hb); replace HB := ak (below_step (bl1 HB.out GE497.out) hb); clear hb))
   go_ret
   exact rz (bl1 HB.out GE497.out)

/-! ### areAll over items, function 43, at any predicate -/
def itemV (x : S61) (A1 : Option Addr) (c1 : Nat) (A4 : Option Addr) (c4 : Nat) : Value := .agg #[.string x.f0, .slice A1 x.f1.length c1, .int .i64 x.f2.f0.f0, .string x.f2.f0.f1, .slice A4 x.f2.f0.f2.length c4, .string x.f2.f0.f3, .int .i64 x.f2.f1, .int .i64 x.f2.f2]
/-- What a predicate over items does in a good world. -/
def PredI (h : Nat) (cb : Array Value) (G : World → Prop) (p : S61 → Option Bool) : Prop :=
 ∀ (x : S61) (r : Bool) (A1 : Option Addr) (c1 : Nat) (A4 : Option Addr) (c4 : Nat) (w : World), G w → Kd.C k105 w A1 x.f1.length x.f1 → x.f1.length ≤ c1 → Kd.C k105 w A4 x.f2.f0.f2.length x.f2.f0.f2 → x.f2.f0.f2.length ≤ c4 → p x = some r →
  Calls Tryz.prog h (#[itemV x A1 c1 A4 c4] ++ cb) w fun e w' => e = .returned (.bool r) ∧ Below w.heap.size w w'
set_option maxHeartbeats 1000000 in
theorem allI.neg (h : Nat) (cb : Array Value) (G : World → Prop) (p : S61 → Option Bool) (hp : PredI h cb G p) (hG : ∀ w w', G w → Below w.heap.size w w' → G w') (eg : ∀ args w, (callFunc h args).run Tryz.prog w = .ok (.enter h args) w)
  (x : S61) (r : Bool) (A1 : Option Addr) (c1 : Nat) (A4 : Option Addr) (c4 : Nat) (b : Nat) (w : World) (hb : b < w.heap.size) (hc : w.cell? ⟨b, 0, none⟩ = some (.func (.func h) #[] cb)) (hg : G w) (h1 : Kd.C k105 w A1 x.f1.length x.f1) (l1 : x.f1.length ≤ c1) (h4 : Kd.C k105 w A4 x.f2.f0.f2.length x.f2.f0.f2) (l4 : x.f2.f0.f2.length ≤ c4) (hx : p x = some r) :
  Calls Tryz.prog 86 #[itemV x A1 c1 A4 c4, .pointer (some ⟨b, 0, none⟩)] w fun e w' => e = .returned (.bool (!r)) ∧ Below w.heap.size w w' := by
 have hbel : ∀ o : Obj, Below w.heap.size w (w.alloc o) := fun o => below_alloc (Below.refl _ _) o
 have hh := fun o : Obj => hp x r A1 c1 A4 c4 (w.alloc o) (hG _ _ hg (hbel o)) (Kd.C_below h1 (hbel o)) l1 (Kd.C_below h4 (hbel o)) l4 hx
 have HH := ak hh
 have HBL := ak hbel
 clear hp hh h1 h4 hx hg hG l1 l4 hbel
 unfold itemV at *
 go_enter Tryz.func86, Tryz.ntmps86
 go_wp2_with (go_at_fn h; refine (HH.out _).mono ?_; rintro e w' ⟨rfl, hb'⟩)
 go_ret
 exact ⟨rfl, below_then (HBL.out _) (by simp) hb'⟩
set_option maxHeartbeats 1000000 in
theorem allI.idx (h : Nat) (cb : Array Value) (G : World → Prop) (p : S61 → Option Bool) (hp : PredI h cb G p) (hG : ∀ w w', G w → Below w.heap.size w w' → G w') (eg : ∀ args w, (callFunc h args).run Tryz.prog w = .ok (.enter h args) w)
  (eg86 : ∀ args w, (callFunc 86 args).run Tryz.prog w = .ok (.enter 86 args) w)
  (A : Option Addr) (c : Nat) (l : List S61) (r : Int) (b : Nat) (w : World) (hr : Kd.C k61 w A l.length l) (hb : b < w.heap.size) (hcb : w.cell? ⟨b, 0, none⟩ = some (.func (.func h) #[] cb)) (hg : G w) (hx : idxO p l 0 = some r) :
  Calls Tryz.prog 131 #[.slice A l.length c, .func (.func 86) #[] #[.pointer (some ⟨b, 0, none⟩)]] w fun e w' => e = .returned (.int .i64 r) ∧ Below w.heap.size w w' := by
 have hm := Kd.C_max hr
 have HX := ak hx
 have HP := ak hp
 have HR := ak hr
 have HC := ak hcb
 have HGW := ak hG
 have HG := ak hg
 have EG := ak eg
 clear hx hp hr hcb eg hG hg
 go_enter Tryz.func131, Tryz.ntmps131
 go_wp2
 go_loopg [5, 8] l.length (fun gg _ s8 wr => ∃ j : Nat, j ≤ l.length ∧ l.length - j ≤ gg ∧ s8 = .int .i64 j ∧ Aside0 (Below w.heap.size w wr) ∧ Aside0 (idxO p (l.drop j) j = some r))
 case atStart => exact ⟨0, Nat.zero_le _, by omega, rfl, ⟨Below.refl _ w⟩, ⟨HX.out⟩⟩
 case round =>
  obtain ⟨j, hj, hgg, rfl, BW, HA⟩ := hrel
  by_cases hlt : j < l.length
  ·have hlt' : (j : Int) < (l.length : Int) := by omega
   have h0 : (0 : Int) ≤ (j : Int) := by omega
   obtain ⟨bo, hbo, hy, hn⟩ := idxO_step p l z61 j hlt r HA.out
   obtain ⟨ad, A1, c1, A4, c4, ea, hx0, hx1, hx2, hx3, hx4, hx5, hx6, hx7, hl1, hi1, hl4, hi4⟩ := at_T61 (Kd.C_below HR.out BW.out) (j : Int) h0 hlt'
   cases ea
   simp only [Int.toNat_natCast] at hx0 hx1 hx2 hx3 hx4 hx5 hx6 hx7
   have hc2 := (BW.out.cell (p := ⟨b, 0, none⟩) hb).trans HC.out
   have hbw : w.heap.size ≤ wr.heap.size := BW.out.size
   rw [show rd_T61 l (j : Int) = l.getD j z61 from rfl] at hx0 hx1 hx2 hx3 hx4 hx5 hx6 hx7 hl1 hi1 hl4 hi4
   generalize l.getD j z61 = y at hbo hx0 hx1 hx2 hx3 hx4 hx5 hx6 hx7 hl1 hi1 hl4 hi4
   have hcall := allI.neg h cb G p HP.out HGW.out EG.out y bo A1 c1 A4 c4 b wr (by omega) hc2 (HGW.out _ _ HG.out BW.out) hi1 hl1 hi4 hl4 hbo
   have HY := ak hy
   have HN := ak hn
   have HC2 := ak hcall
   clear hy hn hbo hcall hc2 hi1 hl1 hi4 hl4
   unfold itemV at HC2
   cases bo with
   | true =>
    go_wp2_with (go_at_fn 86; refine HC2.out.mono ?_; rintro e w' ⟨rfl, hb'⟩)
    go_roundg (l.length - (j + 1))
    case measure => omega
    case rel => exact ⟨j + 1, by omega, by omega, by go_num, ⟨below_then BW.out hbw hb'⟩, ⟨HY.out (by simp)⟩⟩
   | false =>
    go_wp2_with (go_at_fn 86; refine HC2.out.mono ?_; rintro e w' ⟨rfl, hb'⟩)
    go_ret
    exact ⟨congrArg (fun z => Ending.returned (.int .i64 z)) (HN.out (by simp)).symm, below_then BW.out hbw hb'⟩
  ·have hlt' : ¬ (j : Int) < (l.length : Int) := by omega
   have : j = l.length := by omega
   subst this
   have HA2 := HA.out
   rw [List.drop_length] at HA2
   simp only [idxO, Option.some.injEq] at HA2
   have HA3 := ak HA2
   clear HA2
   go_wp2
   go_ret
   exact ⟨congrArg (fun z => Ending.returned (.int .i64 z)) HA3.out, BW.out⟩
set_option maxHeartbeats 1000000 in
theorem allI.has (h : Nat) (cb : Array Value) (G : World → Prop) (p : S61 → Option Bool) (hp : PredI h cb G p) (hG : ∀ w w', G w → Below w.heap.size w w' → G w') (eg : ∀ args w, (callFunc h args).run Tryz.prog w = .ok (.enter h args) w)
  (eg86 : ∀ args w, (callFunc 86 args).run Tryz.prog w = .ok (.enter 86 args) w)
  (A : Option Addr) (c : Nat) (l : List S61) (r : Bool) (b : Nat) (w : World) (hr : Kd.C k61 w A l.length l) (hb : b < w.heap.size) (hcb : w.cell? ⟨b, 0, none⟩ = some (.func (.func h) #[] cb)) (hg : G w) (hx : allO p l = some r) :
  Calls Tryz.prog 85 #[.slice A l.length c, .func (.func 86) #[] #[.pointer (some ⟨b, 0, none⟩)]] w fun e w' => e = .returned (.bool (!r)) ∧ Below w.heap.size w w' := by
 obtain ⟨i, hi, h1, h2⟩ := allO_idx p l r hx 0
 have hcall := fun W hr hb hcb hg => allI.idx h cb G p hp hG eg eg86 A c l i b W hr hb hcb hg hi
 have HC := ak hcall
 have HR := ak hr
 have HB := ak hcb
 have HG := ak hg
 clear hcall hr hp hx hi hcb eg hG hg
 cases r with
 | true =>
  obtain rfl := h1 rfl
  clear h1 h2
  go_enter Tryz.func85, Tryz.ntmps85
  go_wp2_with (go_at_call 131; refine (HC.out _ HR.out hb HB.out HG.out).mono ?_; rintro e w' ⟨rfl, hb'⟩)
  go_ret
  exact ⟨rfl, hb'⟩
 | false =>
  have h3 := h2 rfl
  have h4 : decide (0 ≤ i) = true := decide_eq_true h3
  clear h1 h2
  go_enter Tryz.func85, Tryz.ntmps85
  go_wp2_with (go_at_call 131; refine (HC.out _ HR.out hb HB.out HG.out).mono ?_; rintro e w' ⟨rfl, hb'⟩)
  go_ret
  exact ⟨rfl, hb'⟩
set_option maxHeartbeats 1000000 in
theorem allI.all (h : Nat) (cb : Array Value) (G : World → Prop) (p : S61 → Option Bool) (hp : PredI h cb G p) (hG : ∀ w w', G w → Below w.heap.size w w' → G w') (eg : ∀ args w, (callFunc h args).run Tryz.prog w = .ok (.enter h args) w)
  (A : Option Addr) (c : Nat) (l : List S61) (r : Bool) (w : World) (hr : Kd.C k61 w A l.length l) (hg : G w) (hx : allO p l = some r) :
  Calls Tryz.prog 43 #[.slice A l.length c, .func (.func h) #[] cb] w fun e w' => e = .returned (.bool r) ∧ Below w.heap.size w w' := by
 have eg86 : ∀ args w, (callFunc 86 args).run Tryz.prog w = .ok (.enter 86 args) w := enters_of Tryz.func86 (by kernel_rfl) rfl
 have hcall := fun W b hr hb hcb hg => allI.has h cb G p hp hG eg eg86 A c l r b W hr hb hcb hg hx
 have HC := ak hcall
 have HR := ak hr
 have HG := ak (fun o : Obj => hG _ _ hg (below_alloc (Below.refl _ _) o))
 clear hcall hr hp hx eg hG hg
 go_enter Tryz.func43, Tryz.ntmps43
 go_wp2_with (go_at_call 85; refine (HC.out _ _ (Kd.C_alloc HR.out _) (by simp) (by simp) (HG.out _)).mono ?_; rintro e w' ⟨rfl, hb'⟩)
 go_ret
 exact ⟨rfl, below_then (below_alloc (Below.refl _ _) _) (by simp) hb'⟩

/-! ### impl_Item__57: function 43 at the predicate 57 -/
def impl_Item__57.f (k : Nat) (l0 : List (S61)) : Option Bool := allO (fun x => impl_isItem.f k x.f0 x.f1 x.f2.f0.f0 x.f2.f0.f1 x.f2.f0.f2 x.f2.f0.f3 x.f2.f1 x.f2.f2) l0
theorem impl_Item__57.mono : ∀ a0 k, LeO (impl_Item__57.f k a0) (impl_Item__57.f (k + 1) a0) := fun a0 k => allO_mono (fun x => impl_isItem.mono _ _ _ _ _ _ _ _ k) a0
theorem impl_Item__57.calls (k : Nat) (A0 : Option Addr) (c0 : Nat) (l0 : List (S61)) (r : Bool) (w : World) (hr0 : Kd.C k61 w A0 l0.length l0) (hc0 : l0.length ≤ c0) (h : impl_Item__57.f k l0 = some r) (ht : Glob w) :
  Calls Tryz.prog 43 #[.slice A0 l0.length c0, .func (.func 57) #[] #[]] w fun e w' => e = .returned (.bool r) ∧ Below w.heap.size w w' :=
 allI.all 57 #[] Glob (fun x => impl_isItem.f k x.f0 x.f1 x.f2.f0.f0 x.f2.f0.f1 x.f2.f0.f2 x.f2.f0.f3 x.f2.f1 x.f2.f2) (fun x r A1 c1 A4 c4 w hg h1 l1 h4 l4 hx => impl_isItem.calls k _ _ _ _ _ _ _ _ _ _ _ _ r w h1 l1 h4 l4 hx hg) (fun _ _ => globg) (enters_of Tryz.func57 (by kernel_rfl) rfl) A0 c0 l0 r w hr0 ht h

/-! ### impl_areItems: function 42 -/
def impl_areItems.f (k : Nat) (l0 : List (S61)) : Option (Bool) := if (l0.length : Int) ≤ 30 then ((impl_Item__57.f k l0).bind fun t505 => (some t505)) else (some false)
theorem impl_areItems.mono : ∀ a0 k, LeO (impl_areItems.f k a0) (impl_areItems.f (k + 1) a0) := by
 intro a0 k
 unfold impl_areItems.f
 repeat' with_reducible first | exact impl_Item__57.mono _ _ | exact LeO.refl _ | exact LeO.none _ | refine LeO.ite ?_ ?_ | refine LeO.bind ?_ (fun _ => ?_)
set_option maxHeartbeats 8000000 in
set_option maxRecDepth 100000 in
theorem impl_areItems.calls (k : Nat) (A0 : Option Addr) (c0 : Nat) (l0 : List (S61)) (r : Bool) (w : World) (hr0 : Kd.C k61 w A0 l0.length l0) (hc0 : l0.length ≤ c0) (h : impl_areItems.f k l0 = some r) (ht : Glob w) :
  Calls Tryz.prog 42 #[.slice A0 l0.length c0] w fun e w' => e = .returned (.bool r) ∧ Below w.heap.size w w' := by
 have HR0 := ak hr0
 have HC0 := ak hc0
 clear hr0 hc0
 have HT := ak ht
 clear ht
 have HB := ak (Below.refl w.heap.size w)
 unfold impl_areItems.f at h; have H := h
 clear h
 by_cases c2 : (l0.length : Int) ≤ 30
 ·rw [if_pos c2] at H
  have c2b0 := decide_eq_true c2
  have c2b1 : decide (l0.length ≤ 30) = true := decide_eq_true (by omega)
  clear c2
  replace H := bs H
  obtain ⟨t505, A3, H⟩ := H
  try dsimp only at H
  obtain rfl := Option.some.inj H
  go_enter Tryz.func42, Tryz.ntmps42
  go_wp2_with (first | (go_at_call 43; (with_reducible refine (impl_Item__57.calls k _ _ l0  t505 _ ?side1 ?side2 A3.out (globg HT.out (bl HB.out))).mono ?_); (case side1 => exact kc HR0.out); (case side2 => exact HC0.out); rintro e w4 ⟨rfl, hb⟩; replace HB := ak (below_step (bl HB.out) hb); clear hb))
  go_ret
  exact rz (bl HB.out)
 ·rw [if_neg c2] at H
  have c2b0 := decide_eq_false c2
  have c2b1 : decide (l0.length ≤ 30) = false := decide_eq_false (by omega)
  clear c2
  obtain rfl := Option.some.inj H
  go_enter Tryz.func42, Tryz.ntmps42
  go_wp2
  go_ret
  exact rz (bl HB.out)

-- NOT PRINTED: function 44 (impl_GoodGateway_1)

/-! ### impl_GoodGateway: function 11, its closure 44 -/
set_option maxHeartbeats 1000000 in
theorem came_pred (b : Nat) (now : Int) : PredI 44 #[.pointer (some ⟨b, 0, none⟩)] (fun w => w.cell? ⟨b, 6, none⟩ = some (.int .i64 now)) (fun x => some (decide (x.f2.f2 ≤ now))) := by
 intro x r A1 c1 A4 c4 w hg h1 l1 h4 l4 hx
 obtain rfl := Option.some.inj hx
 have hb := World.block_lt_of_cell? w _ hg
 clear hx h1 l1 h4 l4
 unfold itemV
 show Calls Tryz.prog 44 #[_, _] w _
 go_enter Tryz.func44, Tryz.ntmps44
 go_wp2
 go_ret
 exact ⟨rfl, below_alloc (Below.refl _ _) _⟩
def impl_GoodGateway.f (k : Nat) (a0_0 a0_1 : ByteArray) (a0_2 : Int) (a0_3 a0_4 : ByteArray) (a0_5 : Bool) (a0_6 : Int) (l0_7 : List S61) : Option Bool := (impl_GoodUrl.f k a0_0 a0_1 a0_2 a0_3 a0_4 a0_5).bind fun t1 => if t1 = true then (impl_isTime.f a0_6).bind fun t2 => if t2 = true then (impl_areItems.f k l0_7).bind fun t3 => if t3 = true then allO (fun x => some (decide (x.f2.f2 ≤ a0_6))) l0_7 else some false else some false else some false
theorem impl_GoodGateway.mono : ∀ a0 a1 a2 a3 a4 a5 a6 a7 k, LeO (impl_GoodGateway.f k a0 a1 a2 a3 a4 a5 a6 a7) (impl_GoodGateway.f (k + 1) a0 a1 a2 a3 a4 a5 a6 a7) := by
 intro a0 a1 a2 a3 a4 a5 a6 a7 k
 unfold impl_GoodGateway.f
 repeat' with_reducible first | exact impl_GoodUrl.mono _ _ _ _ _ _ _ | exact impl_areItems.mono _ _ | exact LeO.refl _ | exact LeO.none _ | refine LeO.ite ?_ ?_ | refine LeO.bind ?_ (fun _ => ?_)
set_option maxHeartbeats 4000000 in
set_option maxRecDepth 100000 in
theorem impl_GoodGateway.calls (k : Nat) (a0_0 a0_1 : ByteArray) (a0_2 : Int) (a0_3 a0_4 : ByteArray) (a0_5 : Bool) (a0_6 : Int) (A0_7 : Option Addr) (c0_7 : Nat) (l0_7 : List S61) (r : Bool) (w : World) (hr0_7 : Kd.C k61 w A0_7 l0_7.length l0_7) (hc0_7 : l0_7.length ≤ c0_7) (h : impl_GoodGateway.f k a0_0 a0_1 a0_2 a0_3 a0_4 a0_5 a0_6 l0_7 = some r) (ht : Glob w) :
  Calls Tryz.prog 11 #[.agg #[.string a0_0, .string a0_1, .int .i64 a0_2, .string a0_3, .string a0_4, .bool a0_5, .int .i64 a0_6, .slice A0_7 l0_7.length c0_7]] w fun e w' => e = .returned (.bool r) ∧ Below w.heap.size w w' := by
 have hu32 := Tryz.underlying32
 have HR := ak hr0_7
 have HC := ak hc0_7
 have HT := ak ht
 have HB := ak (Below.refl w.heap.size w)
 clear hr0_7 hc0_7 ht
 unfold impl_GoodGateway.f at h
 replace h := bs h
 obtain ⟨t1, H1, h⟩ := h
 cases t1 with
 | false =>
  rw [if_neg ff] at h
  obtain rfl := Option.some.inj h
  go_enter Tryz.func11, Tryz.ntmps11
  go_wp2_with (first
   | ((with_reducible refine gd 1 ?_); refine bE 1 #[.string a0_0, .string a0_1, .int .i64 a0_2, .string a0_3, .string a0_4, .bool a0_5, .int .i64 a0_6, .slice A0_7 l0_7.length c0_7] 32 ?_; intro g hg w1 hbox hb; have BK := ak hbox; have GE := gs hg (bl HB.out); replace HB := ak (below_step (bl HB.out) hb); clear hb hbox hg; obtain ⟨_, _, _, _, _, _, _, _, _, _, _, _, _, _, _, _⟩ := b8 BK.out)
   | (go_at_call 40; (with_reducible refine (impl_GoodUrl.calls k _ _ _ _ _ _ false _ H1.out (globg HT.out (bl1 HB.out GE.out))).mono ?_); rintro e w2 ⟨rfl, hb⟩; replace HB := ak (below_step (bl1 HB.out GE.out) hb); clear hb))
  go_ret
  exact rz (bl1 HB.out GE.out)
 | true =>
 rw [if_pos rfl] at h
 replace h := bs h
 obtain ⟨t2, H2, h⟩ := h
 cases t2 with
 | false =>
  rw [if_neg ff] at h
  obtain rfl := Option.some.inj h
  go_enter Tryz.func11, Tryz.ntmps11
  go_wp2_with (first
   | ((with_reducible refine gd 1 ?_); refine bE 1 #[.string a0_0, .string a0_1, .int .i64 a0_2, .string a0_3, .string a0_4, .bool a0_5, .int .i64 a0_6, .slice A0_7 l0_7.length c0_7] 32 ?_; intro g hg w1 hbox hb; have BK := ak hbox; have GE := gs hg (bl HB.out); replace HB := ak (below_step (bl HB.out) hb); clear hb hbox hg; obtain ⟨_, _, _, _, _, _, _, _, _, _, _, _, _, _, _, _⟩ := b8 BK.out)
   | (go_at_call 40; (with_reducible refine (impl_GoodUrl.calls k _ _ _ _ _ _ true _ H1.out (globg HT.out (bl1 HB.out GE.out))).mono ?_); rintro e w2 ⟨rfl, hb⟩; replace BK := ak (blk_below (bk BK.out) hb); replace HB := ak (below_step (bl1 HB.out GE.out) hb); clear hb; obtain ⟨_, _, _, _, _, _, _, _, _, _, _, _, _, _, _, _⟩ := b8 BK.out)
   | (go_at_call 41; (with_reducible refine (impl_isTime.calls a0_6 false _ H2.out).mono ?_); rintro e w' ⟨rfl, ⟨nd, rfl⟩⟩))
  go_ret
  exact rz (bl1 HB.out GE.out)
 | true =>
 rw [if_pos rfl] at h
 replace h := bs h
 obtain ⟨t3, H3, h⟩ := h
 cases t3 with
 | false =>
  rw [if_neg ff] at h
  obtain rfl := Option.some.inj h
  go_enter Tryz.func11, Tryz.ntmps11
  go_wp2_with (first
   | ((with_reducible refine gd 1 ?_); refine bE 1 #[.string a0_0, .string a0_1, .int .i64 a0_2, .string a0_3, .string a0_4, .bool a0_5, .int .i64 a0_6, .slice A0_7 l0_7.length c0_7] 32 ?_; intro g hg w1 hbox hb; have BK := ak hbox; have GE := gs hg (bl HB.out); replace HB := ak (below_step (bl HB.out) hb); clear hb hbox hg; obtain ⟨_, _, _, _, _, _, _, _, _, _, _, _, _, _, _, _⟩ := b8 BK.out)
   | (go_at_call 40; (with_reducible refine (impl_GoodUrl.calls k _ _ _ _ _ _ true _ H1.out (globg HT.out (bl1 HB.out GE.out))).mono ?_); rintro e w2 ⟨rfl, hb⟩; replace BK := ak (blk_below (bk BK.out) hb); replace HB := ak (below_step (bl1 HB.out GE.out) hb); clear hb; obtain ⟨_, _, _, _, _, _, _, _, _, _, _, _, _, _, _, _⟩ := b8 BK.out)
   | (go_at_call 41; (with_reducible refine (impl_isTime.calls a0_6 true _ H2.out).mono ?_); rintro e w' ⟨rfl, ⟨nd, rfl⟩⟩)
   | (go_at_call 42; (with_reducible refine (impl_areItems.calls k _ _ l0_7 false _ ?s1 HC.out H3.out (globg HT.out (bl1 HB.out GE.out))).mono ?_); (case s1 => exact kc (Kd.C_below HR.out HB.out)); rintro e w3 ⟨rfl, hb⟩; replace HB := ak (below_step (bl1 HB.out GE.out) hb); clear hb))
  go_ret
  exact rz (bl1 HB.out GE.out)
 | true =>
 rw [if_pos rfl] at h
 have H4 := ak h
 have EG : ∀ args w, (callFunc 44 args).run Tryz.prog w = .ok (.enter 44 args) w := enters_of Tryz.func44 (by kernel_rfl) rfl
 have EG := ak EG
 clear h
 go_enter Tryz.func11, Tryz.ntmps11
 go_wp2_with (first
  | ((with_reducible refine gd 1 ?_); refine bE 1 #[.string a0_0, .string a0_1, .int .i64 a0_2, .string a0_3, .string a0_4, .bool a0_5, .int .i64 a0_6, .slice A0_7 l0_7.length c0_7] 32 ?_; intro g hg w1 hbox hb; have BK := ak hbox; have GE := gs hg (bl HB.out); replace HB := ak (below_step (bl HB.out) hb); clear hb hbox hg; obtain ⟨_, _, _, _, _, _, _, _, _, _, _, _, _, _, _, _⟩ := b8 BK.out)
  | (go_at_call 40; (with_reducible refine (impl_GoodUrl.calls k _ _ _ _ _ _ true _ H1.out (globg HT.out (bl1 HB.out GE.out))).mono ?_); rintro e w2 ⟨rfl, hb⟩; replace BK := ak (blk_below (bk BK.out) hb); replace HB := ak (below_step (bl1 HB.out GE.out) hb); clear hb; obtain ⟨_, _, _, _, _, _, _, _, _, _, _, _, _, _, _, _⟩ := b8 BK.out)
  | (go_at_call 41; (with_reducible refine (impl_isTime.calls a0_6 true _ H2.out).mono ?_); rintro e w' ⟨rfl, ⟨nd, rfl⟩⟩)
  | (go_at_call 42; (with_reducible refine (impl_areItems.calls k _ _ l0_7 true _ ?s1 HC.out H3.out (globg HT.out (bl1 HB.out GE.out))).mono ?_); (case s1 => exact kc (Kd.C_below HR.out HB.out)); rintro e w3 ⟨rfl, hb⟩; replace BK := ak (blk_below (bk BK.out) hb); replace HB := ak (below_step (bl1 HB.out GE.out) hb); clear hb; obtain ⟨_, _, _, _, _, _, _, _, _, _, _, _, _, _, _, _⟩ := b8 BK.out)
  | (go_at_call 43; refine (allI.all 44 #[.pointer (some ⟨g, 0, none⟩)] (fun w => w.cell? ⟨g, 6, none⟩ = some (.int .i64 a0_6)) _ (came_pred g a0_6) (fun w w' hw hb => (hb.cell (p := ⟨g, 6, none⟩) (World.block_lt_of_cell? w _ hw)).trans hw) EG.out _ _ l0_7 r _ ?s2 ?s3 H4.out).mono ?_; (case s2 => exact kc (Kd.C_below HR.out HB.out)); (case s3 => exact bc6 (bk BK.out)); rintro e w4 ⟨rfl, hb⟩; replace HB := ak (below_step (bl1 HB.out GE.out) hb); clear hb))
 go_ret
 exact rz (bl1 HB.out GE.out)

/-! ### slices.Clone over fields: function 132 -/
def slices_CloneF.f (l0 : List S105) : Option (List S105) := if l0.length < 4398046511104 then some l0 else none
set_option maxHeartbeats 2000000 in
set_option maxRecDepth 100000 in
theorem slices_CloneF.calls (A0 : Option Addr) (c0 : Nat) (l0 : List S105) (r : List S105) (w : World) (hr0 : Kd.C k105 w A0 l0.length l0) (hc0 : l0.length ≤ c0) (h : slices_CloneF.f l0 = some r) :
  Calls Tryz.prog 132 #[.slice A0 l0.length c0] w fun e w' => ∃ v0_ : Value, e = .returned (v0_) ∧ Kd.R k105 105 w' w.heap.size (fun _ => True) v0_ r ∧ Below w.heap.size w w' := by
 unfold slices_CloneF.f at h
 by_cases c : l0.length < 4398046511104
 ·rw [if_pos c, Option.some.injEq] at h
  subst h
  have LM := ak c
  have HR0 := ak hr0
  clear hr0 hc0 c
  have hq : ∀ (w : World) (a : Option Addr) (n c n' c' : Nat), (binOp .eql 55 (.slice a n c) (.slice none n' c')).run Tryz.prog w = .ok (.bool a.isNone) w := fun w a n c n' c' => Lib.run_eql_slice_nil w _ _ a n c n' c' Tryz.underlying55
  cases A0 with
  | none =>
   have h0 : l0 = [] := by
    rcases Nat.eq_zero_or_pos l0.length with h0 | h0
    ·exact List.eq_nil_of_length_eq_zero h0
    ·obtain ⟨ad, h, _⟩ := HR0.out.2.2 h0; cases h
   subst h0
   go_enter Tryz.func132, Tryz.ntmps132
   go_wp2
   go_ret
   exact ⟨_, rfl, Kd.R_nil _ _ _ _ _, Below.refl _ _⟩
  | some ad =>
   go_enter Tryz.func132, Tryz.ntmps132
   go_wp2_with (first
    | ((with_reducible refine gd 5 ?_); refine Kd.R_lit k105 _ 105 ?hg (N := 5) ?hd (xs := ([] : List (S105))) (inner := []) (ok := fun _ => True) (okp := fun _ => True) ?hr ?hp (fun _ hk => hk) trivial (Below.refl _ _) (Nat.le_refl _) (by simp) ?_; (case hd => rfl); (case hg => rfl); (case hr => first | (go_simp; done) | (go_simp; rfl)); (case hp => exact (Reps.none _ _)); intro v1 w1 ho1 hb hg_ hnew_; clear hg_ hnew_; have HO := ak ho1; have HB := ak hb; clear ho1 hb)
    | ((with_reducible refine gate_builtin (b := .append) (xs := #[.tmp 5, .tmp 6]) rfl ?_); at_builtin; refine Kd.R_append_rows k105 (w0 := w) w.heap.size rfl (.tmp 5) (.tmp 6) 55 105 (.agg #[(.string ⟨#[]⟩), (.string ⟨#[]⟩)]) 32 rfl Tryz.underlying55 info105 rfl (by decide) (by omega) v1 [] l0 _ _ _ (fun _ => True) (fun _ => False) rfl rfl ?aO ?aR (fun _ _ h => h) (fun _ h => h.elim) ?aF ?aB ?aS ?aL ?_; (case aR => exact Kd.C_below HR0.out HB.out); (case aB => exact HB.out); (case aF => exact (fun _ _ => trivial)); (case aO => exact HO.out); (case aS => exact HB.out.size); (case aL => have := LM.out; simp only [List.length_nil]; omega); intro v2 w2 ho hb hg hat; have HO2 := ak ho; have HB2 := ak hb; clear ho hb hg hat))
   go_ret
   exact ⟨_, rfl, HO2.out, HB2.out⟩
 ·rw [if_neg c] at h; exact absurd h (by simp)

/-! ### impl_Kept_own: function 133 -/
def impl_Kept_own.f (a0_0 : Int) (a0_1 : ByteArray) (l0_2 : List (S105)) (a0_3 : ByteArray) (a0_4 : Int) (a0_5 : Int) : Option (Int × ByteArray × (List (S105)) × ByteArray × Int × Int) := (slices_CloneF.f l0_2).bind fun t508 => (some (a0_0, a0_1, t508, a0_3, a0_4, a0_5))
set_option maxHeartbeats 8000000 in
set_option maxRecDepth 100000 in
theorem impl_Kept_own.calls (a0_0 : Int) (a0_1 : ByteArray) (A0_2 : Option Addr) (c0_2 : Nat) (l0_2 : List (S105)) (a0_3 : ByteArray) (a0_4 : Int) (a0_5 : Int) (r1 : Int) (r2 : ByteArray) (r3 : List (S105)) (r4 : ByteArray) (r5 : Int) (r6 : Int) (w : World) (hr0_2 : Kd.C k105 w A0_2 l0_2.length l0_2) (hc0_2 : l0_2.length ≤ c0_2) (h : impl_Kept_own.f a0_0 a0_1 l0_2 a0_3 a0_4 a0_5 = some (r1, r2, r3, r4, r5, r6)) :
  Calls Tryz.prog 133 #[.agg #[.int .i64 a0_0, .string a0_1, .slice A0_2 l0_2.length c0_2, .string a0_3, .int .i64 a0_4, .int .i64 a0_5]] w fun e w' => ∃ v2_ : Value, e = .returned (.agg #[.int .i64 r1, .string r2, v2_, .string r4, .int .i64 r5, .int .i64 r6]) ∧ Kd.R k105 105 w' w.heap.size (fun _ => True) v2_ r3 ∧ Below w.heap.size w w' := by
 have hu59 := Tryz.underlying59
 have HR0_2 := ak hr0_2
 have HC0_2 := ak hc0_2
 clear hr0_2 hc0_2
 have HB := ak (Below.refl w.heap.size w)
 unfold impl_Kept_own.f at h; have H := h
 clear h
 replace H := bs H
 obtain ⟨t508, A2, H⟩ := H
 try dsimp only at H
 simp only [Option.some.injEq, Prod.mk.injEq] at H
 obtain ⟨rfl, rfl, rfl, rfl, rfl, rfl⟩ := H
 go_enter Tryz.func133, Tryz.ntmps133
 go_wp2_with (first | ((with_reducible refine gd 1 ?_); refine bE 1 #[.int .i64 a0_0, .string a0_1, .slice A0_2 l0_2.length c0_2, .string a0_3, .int .i64 a0_4, .int .i64 a0_5] 59 ?_; intro gb506 hg w3 hbox hb; have BK506 := ak hbox; have GW506 := gs hg (bl HB.out); have GE506 := gs hg (bl HB.out); replace HB := ak (below_step (bl HB.out) hb); clear hb hbox hg) | ((with_reducible refine gd 2 ?_); refine bE 2 #[.int .i64 0, .string (⟨#[]⟩ : ByteArray), .slice none 0 0, .string (⟨#[]⟩ : ByteArray), .int .i64 0, .int .i64 0] 59 ?_; intro gb507 hg w4 hbox hb; have BK507 := ak hbox; have GW507 := gs hg (bl1 HB.out GE506.out); have GE507 := gs hg (bl1 HB.out GE506.out); replace HB := ak (below_step (bl1 HB.out GE506.out) hb); have NB506_507 := nl hg BK506.out; have NB507_506 := ng hg BK506.out; replace BK506 := ak (blk_below (bk BK506.out) hb); clear hb hbox hg; have hnb5 := NB506_507.out; have hnc5 := NB507_506.out; obtain ⟨_, _, _, _, _, _, _, _, _, _, _, _⟩ := b6 BK506.out) | ((with_reducible refine gc 132 ?_); refine gL 132 Tryz.func132 (some 6) #[.slice A0_2 l0_2.length c0_2] ?_; (with_reducible refine (slices_CloneF.calls _ _ l0_2 t508 _ ?side1 ?side2 A2.out).mono ?_); (case side1 => exact kc (Kd.C_below HR0_2.out HB.out)); (case side2 => exact HC0_2.out); rintro e w7 ⟨v509, rfl, ho0, hb⟩; refine ⟨_, rfl, ?_⟩; have HO510 := ak (Kd.R_lower ho0 (below_size (bl2 HB.out GE506.out GE507.out))); replace BK506 := ak (blk_below (bk BK506.out) hb); replace BK507 := ak (blk_below (bk BK507.out) hb); replace HB := ak (below_step (bl2 HB.out GE506.out GE507.out) hb); clear hb ho0; obtain ⟨Ao8, co8, eo8⟩ := Kd.R_slice HO510.out; subst eo8; obtain ⟨_, _, _, _, _, _, _, _, _, _, _, _⟩ := b6 BK506.out; obtain ⟨_, _, _, _, _, _, _, _, _, _, _, _⟩ := b6 BK507.out))
 refine bodyPost_ret (results_cell_row rfl _ _ gb507 59 #[.int .i64 a0_0, .string a0_1, .slice Ao8 t508.length co8, .string a0_3, .int .i64 a0_4, .int .i64 a0_5] (0, 0) _ rfl (bq BK507.out) Tryz.underlying59 rfl (by kernel_rfl)) rfl ?_
 exact ⟨_, by first | rfl | (simp [errW_none, errW_some] <;> rfl) | (simp [*, errW_none, errW_some] <;> rfl), by (with_reducible repeat (first | apply Kd.R_alloc | apply Kd.R_drewN | apply Kd.R_drew)); exact Kd.R_mono (Kd.R_far (p := ⟨gb507, 5, none⟩) (Kd.R_far (p := ⟨gb507, 4, none⟩) (Kd.R_far (p := ⟨gb507, 3, none⟩) (Kd.R_far (p := ⟨gb507, 2, none⟩) (Kd.R_far (p := ⟨gb507, 1, none⟩) (Kd.R_far (p := ⟨gb507, 0, none⟩) (Kd.R_far (p := ⟨gb506, 2, none⟩) (Kd.R_types (Kd.R_types HO510.out BK506.out (by decide)) BK507.out (by decide)) (fun _ hk => hk.1.2) (.slice Ao8 t508.length co8)) (fun _ hk => hk.2) (.int .i64 a0_0)) (fun _ hk => hk.2) (.string a0_1)) (fun _ hk => hk.2) (.slice Ao8 t508.length co8)) (fun _ hk => hk.2) (.string a0_3)) (fun _ hk => hk.2) (.int .i64 a0_4)) (fun _ hk => hk.2) (.int .i64 a0_5)) (fun _ hk => trivial), bl2 HB.out GE506.out GE507.out⟩

end Go.Proofs.YtlmnmakkojgfnaaGreatDoor.PFnExactKeptFor
