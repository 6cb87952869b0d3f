-- written by a program of this session (wip/tool)
import Derived.Test.YtlmnmakkojgfnaaGreatDoorPFnExactKeptForx0
import Derived.Test.YtlmnmakkojgfnaaGreatDoorPFnExactKeptForx12
import Derived.Test.YtlmnmakkojgfnaaGreatDoorPFnExactKeptForx13
import Derived.Test.YtlmnmakkojgfnaaGreatDoorVOwn0
import Derived.Test.YtlmnmakkojgfnaaGreatDoorVOwnOpen
import Derived.WalkKit
import Derived.BigCall
import Derived.Test.YtlmnmakkojgfnaaGreatDoorOwnTr
import Derived.Test.YtlmnmakkojgfnaaGreatDoorVOwnShort
import Derived.Test.YtlmnmakkojgfnaaGreatDoorOwnSq
import Derived.Test.YtlmnmakkojgfnaaGreatDoorOwnIt
namespace Go.Proofs.YtlmnmakkojgfnaaGreatDoor.PFnExactKeptFor
open Go.RowKit Go.Proofs.YtlmnmakkojgfnaaGreatDoorW.PrintWords Go.Proofs.YtlmnmakkojgfnaaGreatDoorW.PrintLast Go.Proofs.YtlmnmakkojgfnaaGreatDoorW.PrintMore Go.Shelf Go.Proofs.YtlmnmakkojgfnaaGreatDoorOwn
attribute [local go_sem] max2_int min2_int max_two min_two max_three min_three max_four min_four   -- for this text's walks alone
set_option linter.unusedVariables false
set_option linter.unusedSimpArgs false

/-! ### areAll, function 124, at any predicate -/
set_option maxHeartbeats 800000 in
theorem areAll_g124.neg (h : Nat) (p : Int → Option Bool) (hp : PredOk Tryz.prog h (Value.int .u8) p) (eg : ∀ args w, (callFunc h args).run Tryz.prog w = .ok (.enter h args) w)
  (x : Int) (r : Bool) (b : Nat) (w : World) (hc : w.cell? ⟨b, 0, none⟩ = some (.func (.func h) #[] #[])) (hx : p x = some r) :
  Calls Tryz.prog 167 #[.int .u8 x, .pointer (some ⟨b, 0, none⟩)] w fun e w' => e = .returned (.bool (!r)) ∧ Below w.heap.size w w' := by
 have hh := hp x r
 clear hp
 go_enter Tryz.func167, Tryz.ntmps167
 go_wp2_with (go_at_fn h; refine (hh _ hx).mono ?_; rintro e w' ⟨rfl, hb⟩)
 go_ret
 exact ⟨rfl, hb⟩
set_option maxHeartbeats 800000 in
theorem areAll_g124.idx (h : Nat) (p : Int → Option Bool) (hp : PredOk Tryz.prog h (Value.int .u8) p) (eg : ∀ args w, (callFunc h args).run Tryz.prog w = .ok (.enter h args) w)
  (eg90 : ∀ args w, (callFunc 167 args).run Tryz.prog w = .ok (.enter 167 args) w)
  (A : Option Addr) (c : Nat) (l : List Int) (r : Int) (b : Nat) (w : World) (hr : Kd.C (Kd.int .u8) w A l.length l) (hb : b < w.heap.size) (hcb : w.cell? ⟨b, 0, none⟩ = some (.func (.func h) #[] #[])) (hx : idxO p l 0 = some r) :
  Calls Tryz.prog 193 #[.slice A l.length c, .func (.func 167) #[] #[.pointer (some ⟨b, 0, none⟩)]] w fun e w' => e = .returned (.int .i64 r) ∧ Below w.heap.size w w' := by
 have hm := Kd.C_max hr
 have HX := ak hx
 have HP := ak hp
 have HR := ak hr
 have HC := ak hcb
 have EG := ak eg
 clear hx hp hr hcb eg
 go_enter Tryz.func193, Tryz.ntmps193
 go_wp2
 go_loopg [5, 8] l.length (fun gg _ s8 wr => ∃ j : Nat, j ≤ l.length ∧ l.length - j ≤ gg ∧ s8 = .int .i64 j ∧ Aside0 (Below w.heap.size w wr) ∧ Aside0 (idxO p (l.drop j) j = some r))
 case atStart => exact ⟨0, Nat.zero_le _, by omega, rfl, ⟨Below.refl _ w⟩, ⟨HX.out⟩⟩
 case round =>
  obtain ⟨j, hj, hg, rfl, BW, HA⟩ := hrel
  by_cases hlt : j < l.length
  ·have hlt' : (j : Int) < (l.length : Int) := by omega
   have h0 : (0 : Int) ≤ (j : Int) := by omega
   obtain ⟨bo, hbo, hy, hn⟩ := idxO_step p l 0 j hlt r HA.out
   obtain ⟨ad, ea, hcell⟩ := Kd.at_int (Kd.C_below HR.out BW.out) (j : Int) h0 hlt'
   cases ea
   have hcell2 : wr.cell? (ad.add j) = some (.int .u8 (l.getD j 0)) := hcell
   clear hcell
   have hc2 := (BW.out.cell (p := ⟨b, 0, none⟩) hb).trans HC.out
   have hbw : w.heap.size ≤ wr.heap.size := BW.out.size
   generalize l.getD j 0 = y at hbo hcell2
   have hcall := areAll_g124.neg h p HP.out EG.out y bo b wr hc2 hbo
   have HY := ak hy
   have HN := ak hn
   have HC2 := ak hcall
   clear hy hn hbo hcall hc2
   cases bo with
   | true =>
    go_wp2_with (go_at_fn 167; refine HC2.out.mono ?_; rintro e w' ⟨rfl, hb'⟩)
    go_roundg (l.length - (j + 1))
    case measure => omega
    case rel => exact ⟨j + 1, by omega, by omega, by go_num, ⟨below_then BW.out hbw hb'⟩, ⟨HY.out (by simp)⟩⟩
   | false =>
    go_wp2_with (go_at_fn 167; refine HC2.out.mono ?_; rintro e w' ⟨rfl, hb'⟩)
    go_ret
    exact ⟨congrArg (fun z => Ending.returned (.int .i64 z)) (HN.out (by simp)).symm, below_then BW.out hbw hb'⟩
  ·have hlt' : ¬ (j : Int) < (l.length : Int) := by omega
   have : j = l.length := by omega
   subst this
   have HA2 := HA.out
   rw [List.drop_length] at HA2
   simp only [idxO, Option.some.injEq] at HA2
   have HA3 := ak HA2
   clear HA2
   go_wp2
   go_ret
   exact ⟨congrArg (fun z => Ending.returned (.int .i64 z)) HA3.out, BW.out⟩
set_option maxHeartbeats 800000 in
theorem areAll_g124.has (h : Nat) (p : Int → Option Bool) (hp : PredOk Tryz.prog h (Value.int .u8) p) (eg : ∀ args w, (callFunc h args).run Tryz.prog w = .ok (.enter h args) w)
  (eg90 : ∀ args w, (callFunc 167 args).run Tryz.prog w = .ok (.enter 167 args) w)
  (A : Option Addr) (c : Nat) (l : List Int) (r : Bool) (b : Nat) (w : World) (hr : Kd.C (Kd.int .u8) w A l.length l) (hb : b < w.heap.size) (hcb : w.cell? ⟨b, 0, none⟩ = some (.func (.func h) #[] #[])) (hx : allO p l = some r) :
  Calls Tryz.prog 166 #[.slice A l.length c, .func (.func 167) #[] #[.pointer (some ⟨b, 0, none⟩)]] w fun e w' => e = .returned (.bool (!r)) ∧ Below w.heap.size w w' := by
 obtain ⟨i, hi, h1, h2⟩ := allO_idx p l r hx 0
 have hcall := fun W hr hb hcb => areAll_g124.idx h p hp eg eg90 A c l i b W hr hb hcb hi
 have HC := ak hcall
 have HR := ak hr
 have HB := ak hcb
 have EG := ak eg
 clear hcall hr hp hx hi hcb eg
 cases r with
 | true =>
  obtain rfl := h1 rfl
  clear h1 h2
  go_enter Tryz.func166, Tryz.ntmps166
  go_wp2_with (go_at_call 193; refine (HC.out _ HR.out hb HB.out).mono ?_; rintro e w' ⟨rfl, hb'⟩)
  go_ret
  exact ⟨rfl, hb'⟩
 | false =>
  have h3 := h2 rfl
  have h4 : decide (0 ≤ i) = true := decide_eq_true h3
  clear h1 h2
  go_enter Tryz.func166, Tryz.ntmps166
  go_wp2_with (go_at_call 193; refine (HC.out _ HR.out hb HB.out).mono ?_; rintro e w' ⟨rfl, hb'⟩)
  go_ret
  exact ⟨rfl, hb'⟩
set_option maxHeartbeats 800000 in
theorem areAll_g124.all (h : Nat) (p : Int → Option Bool) (hp : PredOk Tryz.prog h (Value.int .u8) p) (eg : ∀ args w, (callFunc h args).run Tryz.prog w = .ok (.enter h args) w)
  (A : Option Addr) (c : Nat) (l : List Int) (r : Bool) (w : World) (hr : Kd.C (Kd.int .u8) w A l.length l) (hx : allO p l = some r) :
  Calls Tryz.prog 124 #[.slice A l.length c, .func (.func h) #[] #[]] w fun e w' => e = .returned (.bool r) ∧ Below w.heap.size w w' := by
 have eg90 : ∀ args w, (callFunc 167 args).run Tryz.prog w = .ok (.enter 167 args) w := enters_of Tryz.func167 (by kernel_rfl) rfl
 have hcall := fun W b hr hb hcb => areAll_g124.has h p hp eg eg90 A c l r b W hr hb hcb hx
 have HC := ak hcall
 have HR := ak hr
 have EG := ak eg
 clear hcall hr hp hx eg
 go_enter Tryz.func124, Tryz.ntmps124
 go_wp2_with (go_at_call 166; refine (HC.out _ _ (Kd.C_alloc HR.out _) (by simp) (by simp)).mono ?_; rintro e w' ⟨rfl, hb'⟩)
 go_ret
 exact ⟨rfl, below_then (below_alloc (Below.refl _ _) _) (by simp) hb'⟩

/-! ### impl_areBytes_80: function 79 at the predicate 80 -/
def impl_areBytes_80.f (a0 : ByteArray) : Option Bool := if a0.size ≤ 9223372036854775807 then allO (fun x => impl_GoodUrl_1.f x) (bytesOf a0) else none
set_option maxHeartbeats 800000 in
set_option maxRecDepth 100000 in
theorem impl_areBytes_80.calls (a0 : ByteArray) (r : Bool) (w : World) (h : impl_areBytes_80.f a0 = some r) :
  Calls Tryz.prog 79 #[.string a0, .func (.func 80) #[] #[]] w fun e w' => e = .returned (.bool r) ∧ Below w.heap.size w w' := by
 unfold impl_areBytes_80.f at h
 split at h
 ·rename_i hm
  have HR := Kd.C_of_reads (d := (0 : Int)) (h1 := fun _ => rfl) (bytes_reads w 5 a0 hm)
  have HB := ak (bytes_below (Below.refl w.heap.size w) (Nat.le_refl _) 5 a0)
  have hcall := areAll_g124.all 80 (fun x => impl_GoodUrl_1.f x) (fun x r w h => by
   refine (impl_GoodUrl_1.calls x r w h).mono ?_
   rintro e w' ⟨rfl, hb⟩
   exact ⟨rfl, hb⟩) (enters_of Tryz.func80 (by kernel_rfl) rfl) (some ⟨w.heap.size, 0, none⟩) (grownCap w a0.size 0 5) (bytesOf a0) r (Lib.bytesWorld w 5 a0) (by rw [bytesOf_length]; exact HR) h
  rw [bytesOf_length] at hcall
  have HC := ak hcall
  clear h hcall HR
  have kb := fun W => print_bytes (P := Tryz.prog) 9 66 5 Tryz.underlying9 Tryz.underlying66 Tryz.underlying5 a0 W
  go_enter Tryz.func79, Tryz.ntmps79
  go_wp2_with (go_at_call 124; refine HC.out.mono ?_; rintro e w' ⟨rfl, hb⟩)
  go_ret
  exact ⟨rfl, below_then HB.out (by rw [Lib.bytesWorld_size]; omega) hb⟩
 ·cases h


/-! ### impl_GoodUrl: function 40 -/
def impl_GoodUrl.f (k : Nat) (a0_0 : ByteArray) (a0_1 : ByteArray) (a0_2 : Int) (a0_3 : ByteArray) (a0_4 : ByteArray) (a0_5 : Bool) : Option (Bool) := if a0_0.toList = ([104, 116, 116, 112] : List UInt8) then ((impl_within.f (a0_1.size : Int) 1 60).bind fun t369 => (if t369 = true then ((impl_areBytes_80.f a0_1).bind fun t370 => (if t370 = true then ((impl_within.f a0_2 0 65535).bind fun t371 => (if t371 = true then ((strings_HasPrefix.f a0_3 (⟨#[47]⟩ : ByteArray)).bind fun t372 => (if t372 = true then ((impl_arePchars.f k a0_3 (⟨#[47]⟩ : ByteArray)).bind fun t373 => (if t373 = true then ((impl_arePchars.f k a0_4 (⟨#[47, 63]⟩ : ByteArray)).bind fun t374 => (if t374 = true then (if a0_5 = true then ((impl_urlText.f a0_0 a0_1 a0_2 a0_3 a0_4 a0_5).bind fun t375 => (some (decide ((t375.size : Int) ≤ 200)))) else (if a0_4.toList = ([] : List UInt8) then ((impl_urlText.f a0_0 a0_1 a0_2 a0_3 a0_4 a0_5).bind fun t376 => (some (decide ((t376.size : Int) ≤ 200)))) else (some false))) else (some false))) else (some false))) else (some false))) else (some false))) else (some false))) else (some false))) else (if a0_0.toList = ([104, 116, 116, 112, 115] : List UInt8) then ((impl_within.f (a0_1.size : Int) 1 60).bind fun t377 => (if t377 = true then ((impl_areBytes_80.f a0_1).bind fun t378 => (if t378 = true then ((impl_within.f a0_2 0 65535).bind fun t379 => (if t379 = true then ((strings_HasPrefix.f a0_3 (⟨#[47]⟩ : ByteArray)).bind fun t380 => (if t380 = true then ((impl_arePchars.f k a0_3 (⟨#[47]⟩ : ByteArray)).bind fun t381 => (if t381 = true then ((impl_arePchars.f k a0_4 (⟨#[47, 63]⟩ : ByteArray)).bind fun t382 => (if t382 = true then (if a0_5 = true then ((impl_urlText.f a0_0 a0_1 a0_2 a0_3 a0_4 a0_5).bind fun t383 => (some (decide ((t383.size : Int) ≤ 200)))) else (if a0_4.toList = ([] : List UInt8) then ((impl_urlText.f a0_0 a0_1 a0_2 a0_3 a0_4 a0_5).bind fun t384 => (some (decide ((t384.size : Int) ≤ 200)))) else (some false))) else (some false))) else (some false))) else (some false))) else (some false))) else (some false))) else (some false))) else (some false))
theorem impl_GoodUrl.mono : ∀ a0 a1 a2 a3 a4 a5 k, LeO (impl_GoodUrl.f k a0 a1 a2 a3 a4 a5) (impl_GoodUrl.f (k + 1) a0 a1 a2 a3 a4 a5) := by
 intro a0 a1 a2 a3 a4 a5 k
 unfold impl_GoodUrl.f
 repeat' with_reducible first | exact impl_arePchars.mono _ _ _ | exact LeO.refl _ | exact LeO.none _ | refine LeO.ite ?_ ?_ | refine LeO.bind ?_ (fun _ => ?_)
set_option maxHeartbeats 8000000 in
set_option maxRecDepth 100000 in
theorem impl_GoodUrl.calls (k : Nat) (a0_0 : ByteArray) (a0_1 : ByteArray) (a0_2 : Int) (a0_3 : ByteArray) (a0_4 : ByteArray) (a0_5 : Bool) (r : Bool) (w : World) (h : impl_GoodUrl.f k a0_0 a0_1 a0_2 a0_3 a0_4 a0_5 = some r) (ht : Glob w) :
  Calls Tryz.prog 40 #[.agg #[.string a0_0, .string a0_1, .int .i64 a0_2, .string a0_3, .string a0_4, .bool a0_5]] w fun e w' => e = .returned (.bool r) ∧ Below w.heap.size w w' := by
 have hu29 := Tryz.underlying29
 have HT := ak ht
 clear ht
 have HB := ak (Below.refl w.heap.size w)
 unfold impl_GoodUrl.f at h; have H := h
 clear h
 by_cases c2 : a0_0.toList = ([104, 116, 116, 112] : List UInt8)
 ·rw [if_pos c2] at H
  have c2b0 : (a0_0.toList == ([104, 116, 116, 112] : List UInt8)) = true := beq_iff_eq.mpr c2
  have c2b1 : (a0_0.toList != ([104, 116, 116, 112] : List UInt8)) = false := bne_eq_false_iff_eq.mpr c2
  clear c2
  replace H := bs H
  obtain ⟨t369, A3, H⟩ := H
  try dsimp only at H
  by_cases c4 : t369 = true
  ·subst c4
   rw [if_pos rfl] at H
   replace H := bs H
   obtain ⟨t370, A5, H⟩ := H
   try dsimp only at H
   by_cases c6 : t370 = true
   ·subst c6
    rw [if_pos rfl] at H
    replace H := bs H
    obtain ⟨t371, A7, H⟩ := H
    try dsimp only at H
    by_cases c8 : t371 = true
    ·subst c8
     rw [if_pos rfl] at H
     replace H := bs H
     obtain ⟨t372, A9, H⟩ := H
     try dsimp only at H
     by_cases c10 : t372 = true
     ·subst c10
      rw [if_pos rfl] at H
      replace H := bs H
      obtain ⟨t373, A11, H⟩ := H
      try dsimp only at H
      by_cases c12 : t373 = true
      ·subst c12
       rw [if_pos rfl] at H
       replace H := bs H
       obtain ⟨t374, A13, H⟩ := H
       try dsimp only at H
       by_cases c14 : t374 = true
       ·subst c14
        rw [if_pos rfl] at H
        by_cases c15 : a0_5 = true
        ·subst c15
         rw [if_pos rfl] at H
         replace H := bs H
         obtain ⟨t375, A16, H⟩ := H
         try dsimp only at H
         obtain rfl := Option.some.inj H
         go_enter Tryz.func40, Tryz.ntmps40
         go_wp2_with (first | ((with_reducible refine gd 1 ?_); (try (refine gate_guard (by rfl) ?_; dsimp only)); refine bE 1 #[.string a0_0, .string a0_1, .int .i64 a0_2, .string a0_3, .string a0_4, .bool true] 29 ?_; intro gb368 hg w17 hbox hb; have BK368 := ak hbox; have GW368 := gs hg (bl HB.out); have GE368 := gs hg (bl HB.out); replace HB := ak (below_step (bl HB.out) hb); clear hb hbox hg; obtain ⟨_, _, _, _, _, _, _, _, _, _, _, _⟩ := b6 BK368.out) | (go_at_call 78; (with_reducible refine (impl_within.calls (a0_1.size : Int) 1 60 true _ A3.out).mono ?_); rintro e w' ⟨rfl, ⟨nd, rfl⟩⟩) | (go_at_call 79; (with_reducible refine (impl_areBytes_80.calls a0_1  true _ A5.out).mono ?_); rintro e w19 ⟨rfl, hb⟩; replace BK368 := ak (blk_below (bk BK368.out) hb); replace HB := ak (below_step (bl1 HB.out GE368.out) hb); clear hb; obtain ⟨_, _, _, _, _, _, _, _, _, _, _, _⟩ := b6 BK368.out) | (go_at_call 78; (with_reducible refine (impl_within.calls a0_2 0 65535 true _ A7.out).mono ?_); rintro e w' ⟨rfl, ⟨nd, rfl⟩⟩) | (go_at_call 82; (with_reducible refine (strings_HasPrefix.calls a0_3 (⟨#[47]⟩ : ByteArray) true _ A9.out).mono ?_); rintro e w21 ⟨rfl, hb⟩; replace BK368 := ak (blk_below (bk BK368.out) hb); replace HB := ak (below_step (bl1 HB.out GE368.out) hb); clear hb; obtain ⟨_, _, _, _, _, _, _, _, _, _, _, _⟩ := b6 BK368.out) | (go_at_call 83; (with_reducible refine (impl_arePchars.calls k a0_3 (⟨#[47]⟩ : ByteArray) true _ A11.out).mono ?_); rintro e w23 ⟨rfl, hb⟩; replace BK368 := ak (blk_below (bk BK368.out) hb); replace HB := ak (below_step (bl1 HB.out GE368.out) hb); clear hb; obtain ⟨_, _, _, _, _, _, _, _, _, _, _, _⟩ := b6 BK368.out) | (go_at_call 83; (with_reducible refine (impl_arePchars.calls k a0_4 (⟨#[47, 63]⟩ : ByteArray) true _ A13.out).mono ?_); rintro e w25 ⟨rfl, hb⟩; replace BK368 := ak (blk_below (bk BK368.out) hb); replace HB := ak (below_step (bl1 HB.out GE368.out) hb); clear hb; obtain ⟨_, _, _, _, _, _, _, _, _, _, _, _⟩ := b6 BK368.out) | (go_at_call 84; (with_reducible refine (impl_urlText.calls a0_0 a0_1 a0_2 a0_3 a0_4 true t375 _ A16.out (globg HT.out (bl1 HB.out GE368.out))).mono ?_); rintro e w27 ⟨rfl, hb⟩; replace BK368 := ak (blk_below (bk BK368.out) hb); replace HB := ak (below_step (bl1 HB.out GE368.out) hb); clear hb))
         go_ret
         exact rz (bl1 HB.out GE368.out)
        ·replace c15 := Bool.eq_false_iff.mpr c15
         subst c15
         rw [if_neg ff] at H
         by_cases c28 : a0_4.toList = ([] : List UInt8)
         ·rw [if_pos c28] at H
          have c28b0 : (a0_4.toList == ([] : List UInt8)) = true := beq_iff_eq.mpr c28
          have c28b1 : (a0_4.toList != ([] : List UInt8)) = false := bne_eq_false_iff_eq.mpr c28
          clear c28
          replace H := bs H
          obtain ⟨t376, A29, H⟩ := H
          try dsimp only at H
          obtain rfl := Option.some.inj H
          go_enter Tryz.func40, Tryz.ntmps40
          go_wp2_with (first | ((with_reducible refine gd 1 ?_); (try (refine gate_guard (by rfl) ?_; dsimp only)); refine bE 1 #[.string a0_0, .string a0_1, .int .i64 a0_2, .string a0_3, .string a0_4, .bool false] 29 ?_; intro gb368 hg w30 hbox hb; have BK368 := ak hbox; have GW368 := gs hg (bl HB.out); have GE368 := gs hg (bl HB.out); replace HB := ak (below_step (bl HB.out) hb); clear hb hbox hg; obtain ⟨_, _, _, _, _, _, _, _, _, _, _, _⟩ := b6 BK368.out) | (go_at_call 78; (with_reducible refine (impl_within.calls (a0_1.size : Int) 1 60 true _ A3.out).mono ?_); rintro e w' ⟨rfl, ⟨nd, rfl⟩⟩) | (go_at_call 79; (with_reducible refine (impl_areBytes_80.calls a0_1  true _ A5.out).mono ?_); rintro e w32 ⟨rfl, hb⟩; replace BK368 := ak (blk_below (bk BK368.out) hb); replace HB := ak (below_step (bl1 HB.out GE368.out) hb); clear hb; obtain ⟨_, _, _, _, _, _, _, _, _, _, _, _⟩ := b6 BK368.out) | (go_at_call 78; (with_reducible refine (impl_within.calls a0_2 0 65535 true _ A7.out).mono ?_); rintro e w' ⟨rfl, ⟨nd, rfl⟩⟩) | (go_at_call 82; (with_reducible refine (strings_HasPrefix.calls a0_3 (⟨#[47]⟩ : ByteArray) true _ A9.out).mono ?_); rintro e w34 ⟨rfl, hb⟩; replace BK368 := ak (blk_below (bk BK368.out) hb); replace HB := ak (below_step (bl1 HB.out GE368.out) hb); clear hb; obtain ⟨_, _, _, _, _, _, _, _, _, _, _, _⟩ := b6 BK368.out) | (go_at_call 83; (with_reducible refine (impl_arePchars.calls k a0_3 (⟨#[47]⟩ : ByteArray) true _ A11.out).mono ?_); rintro e w36 ⟨rfl, hb⟩; replace BK368 := ak (blk_below (bk BK368.out) hb); replace HB := ak (below_step (bl1 HB.out GE368.out) hb); clear hb; obtain ⟨_, _, _, _, _, _, _, _, _, _, _, _⟩ := b6 BK368.out) | (go_at_call 83; (with_reducible refine (impl_arePchars.calls k a0_4 (⟨#[47, 63]⟩ : ByteArray) true _ A13.out).mono ?_); rintro e w38 ⟨rfl, hb⟩; replace BK368 := ak (blk_below (bk BK368.out) hb); replace HB := ak (below_step (bl1 HB.out GE368.out) hb); clear hb; obtain ⟨_, _, _, _, _, _, _, _, _, _, _, _⟩ := b6 BK368.out) | (go_at_call 84; (with_reducible refine (impl_urlText.calls a0_0 a0_1 a0_2 a0_3 a0_4 false t376 _ A29.out (globg HT.out (bl1 HB.out GE368.out))).mono ?_); rintro e w40 ⟨rfl, hb⟩; replace BK368 := ak (blk_below (bk BK368.out) hb); replace HB := ak (below_step (bl1 HB.out GE368.out) hb); clear hb))
          go_ret
          exact rz (bl1 HB.out GE368.out)
         ·rw [if_neg c28] at H
          have c28b0 : (a0_4.toList == ([] : List UInt8)) = false := beq_eq_false_iff_ne.mpr c28
          have c28b1 : (a0_4.toList != ([] : List UInt8)) = true := bne_iff_ne.mpr c28
          obtain rfl := Option.some.inj H
          go_enter Tryz.func40, Tryz.ntmps40
          go_wp2_with (first | ((with_reducible refine gd 1 ?_); (try (refine gate_guard (by rfl) ?_; dsimp only)); refine bE 1 #[.string a0_0, .string a0_1, .int .i64 a0_2, .string a0_3, .string a0_4, .bool false] 29 ?_; intro gb368 hg w41 hbox hb; have BK368 := ak hbox; have GW368 := gs hg (bl HB.out); have GE368 := gs hg (bl HB.out); replace HB := ak (below_step (bl HB.out) hb); clear hb hbox hg; obtain ⟨_, _, _, _, _, _, _, _, _, _, _, _⟩ := b6 BK368.out) | (go_at_call 78; (with_reducible refine (impl_within.calls (a0_1.size : Int) 1 60 true _ A3.out).mono ?_); rintro e w' ⟨rfl, ⟨nd, rfl⟩⟩) | (go_at_call 79; (with_reducible refine (impl_areBytes_80.calls a0_1  true _ A5.out).mono ?_); rintro e w43 ⟨rfl, hb⟩; replace BK368 := ak (blk_below (bk BK368.out) hb); replace HB := ak (below_step (bl1 HB.out GE368.out) hb); clear hb; obtain ⟨_, _, _, _, _, _, _, _, _, _, _, _⟩ := b6 BK368.out) | (go_at_call 78; (with_reducible refine (impl_within.calls a0_2 0 65535 true _ A7.out).mono ?_); rintro e w' ⟨rfl, ⟨nd, rfl⟩⟩) | (go_at_call 82; (with_reducible refine (strings_HasPrefix.calls a0_3 (⟨#[47]⟩ : ByteArray) true _ A9.out).mono ?_); rintro e w45 ⟨rfl, hb⟩; replace BK368 := ak (blk_below (bk BK368.out) hb); replace HB := ak (below_step (bl1 HB.out GE368.out) hb); clear hb; obtain ⟨_, _, _, _, _, _, _, _, _, _, _, _⟩ := b6 BK368.out) | (go_at_call 83; (with_reducible refine (impl_arePchars.calls k a0_3 (⟨#[47]⟩ : ByteArray) true _ A11.out).mono ?_); rintro e w47 ⟨rfl, hb⟩; replace BK368 := ak (blk_below (bk BK368.out) hb); replace HB := ak (below_step (bl1 HB.out GE368.out) hb); clear hb; obtain ⟨_, _, _, _, _, _, _, _, _, _, _, _⟩ := b6 BK368.out) | (go_at_call 83; (with_reducible refine (impl_arePchars.calls k a0_4 (⟨#[47, 63]⟩ : ByteArray) true _ A13.out).mono ?_); rintro e w49 ⟨rfl, hb⟩; replace BK368 := ak (blk_below (bk BK368.out) hb); replace HB := ak (below_step (bl1 HB.out GE368.out) hb); clear hb; obtain ⟨_, _, _, _, _, _, _, _, _, _, _, _⟩ := b6 BK368.out))
          go_ret
          exact rz (bl1 HB.out GE368.out)
       ·replace c14 := Bool.eq_false_iff.mpr c14
        subst c14
        rw [if_neg ff] at H
        obtain rfl := Option.some.inj H
        go_enter Tryz.func40, Tryz.ntmps40
        go_wp2_with (first | ((with_reducible refine gd 1 ?_); (try (refine gate_guard (by rfl) ?_; dsimp only)); refine bE 1 #[.string a0_0, .string a0_1, .int .i64 a0_2, .string a0_3, .string a0_4, .bool a0_5] 29 ?_; intro gb368 hg w51 hbox hb; have BK368 := ak hbox; have GW368 := gs hg (bl HB.out); have GE368 := gs hg (bl HB.out); replace HB := ak (below_step (bl HB.out) hb); clear hb hbox hg; obtain ⟨_, _, _, _, _, _, _, _, _, _, _, _⟩ := b6 BK368.out) | (go_at_call 78; (with_reducible refine (impl_within.calls (a0_1.size : Int) 1 60 true _ A3.out).mono ?_); rintro e w' ⟨rfl, ⟨nd, rfl⟩⟩) | (go_at_call 79; (with_reducible refine (impl_areBytes_80.calls a0_1  true _ A5.out).mono ?_); rintro e w53 ⟨rfl, hb⟩; replace BK368 := ak (blk_below (bk BK368.out) hb); replace HB := ak (below_step (bl1 HB.out GE368.out) hb); clear hb; obtain ⟨_, _, _, _, _, _, _, _, _, _, _, _⟩ := b6 BK368.out) | (go_at_call 78; (with_reducible refine (impl_within.calls a0_2 0 65535 true _ A7.out).mono ?_); rintro e w' ⟨rfl, ⟨nd, rfl⟩⟩) | (go_at_call 82; (with_reducible refine (strings_HasPrefix.calls a0_3 (⟨#[47]⟩ : ByteArray) true _ A9.out).mono ?_); rintro e w55 ⟨rfl, hb⟩; replace BK368 := ak (blk_below (bk BK368.out) hb); replace HB := ak (below_step (bl1 HB.out GE368.out) hb); clear hb; obtain ⟨_, _, _, _, _, _, _, _, _, _, _, _⟩ := b6 BK368.out) | (go_at_call 83; (with_reducible refine (impl_arePchars.calls k a0_3 (⟨#[47]⟩ : ByteArray) true _ A11.out).mono ?_); rintro e w57 ⟨rfl, hb⟩; replace BK368 := ak (blk_below (bk BK368.out) hb); replace HB := ak (below_step (bl1 HB.out GE368.out) hb); clear hb; obtain ⟨_, _, _, _, _, _, _, _, _, _, _, _⟩ := b6 BK368.out) | (go_at_call 83; (with_reducible refine (impl_arePchars.calls k a0_4 (⟨#[47, 63]⟩ : ByteArray) false _ A13.out).mono ?_); rintro e w59 ⟨rfl, hb⟩; replace BK368 := ak (blk_below (bk BK368.out) hb); replace HB := ak (below_step (bl1 HB.out GE368.out) hb); clear hb))
        go_ret
        exact rz (bl1 HB.out GE368.out)
      ·replace c12 := Bool.eq_false_iff.mpr c12
       subst c12
       rw [if_neg ff] at H
       obtain rfl := Option.some.inj H
       go_enter Tryz.func40, Tryz.ntmps40
       go_wp2_with (first | ((with_reducible refine gd 1 ?_); (try (refine gate_guard (by rfl) ?_; dsimp only)); refine bE 1 #[.string a0_0, .string a0_1, .int .i64 a0_2, .string a0_3, .string a0_4, .bool a0_5] 29 ?_; intro gb368 hg w60 hbox hb; have BK368 := ak hbox; have GW368 := gs hg (bl HB.out); have GE368 := gs hg (bl HB.out); replace HB := ak (below_step (bl HB.out) hb); clear hb hbox hg; obtain ⟨_, _, _, _, _, _, _, _, _, _, _, _⟩ := b6 BK368.out) | (go_at_call 78; (with_reducible refine (impl_within.calls (a0_1.size : Int) 1 60 true _ A3.out).mono ?_); rintro e w' ⟨rfl, ⟨nd, rfl⟩⟩) | (go_at_call 79; (with_reducible refine (impl_areBytes_80.calls a0_1  true _ A5.out).mono ?_); rintro e w62 ⟨rfl, hb⟩; replace BK368 := ak (blk_below (bk BK368.out) hb); replace HB := ak (below_step (bl1 HB.out GE368.out) hb); clear hb; obtain ⟨_, _, _, _, _, _, _, _, _, _, _, _⟩ := b6 BK368.out) | (go_at_call 78; (with_reducible refine (impl_within.calls a0_2 0 65535 true _ A7.out).mono ?_); rintro e w' ⟨rfl, ⟨nd, rfl⟩⟩) | (go_at_call 82; (with_reducible refine (strings_HasPrefix.calls a0_3 (⟨#[47]⟩ : ByteArray) true _ A9.out).mono ?_); rintro e w64 ⟨rfl, hb⟩; replace BK368 := ak (blk_below (bk BK368.out) hb); replace HB := ak (below_step (bl1 HB.out GE368.out) hb); clear hb; obtain ⟨_, _, _, _, _, _, _, _, _, _, _, _⟩ := b6 BK368.out) | (go_at_call 83; (with_reducible refine (impl_arePchars.calls k a0_3 (⟨#[47]⟩ : ByteArray) false _ A11.out).mono ?_); rintro e w66 ⟨rfl, hb⟩; replace BK368 := ak (blk_below (bk BK368.out) hb); replace HB := ak (below_step (bl1 HB.out GE368.out) hb); clear hb))
       go_ret
       exact rz (bl1 HB.out GE368.out)
     ·replace c10 := Bool.eq_false_iff.mpr c10
      subst c10
      rw [if_neg ff] at H
      obtain rfl := Option.some.inj H
      go_enter Tryz.func40, Tryz.ntmps40
      go_wp2_with (first | ((with_reducible refine gd 1 ?_); (try (refine gate_guard (by rfl) ?_; dsimp only)); refine bE 1 #[.string a0_0, .string a0_1, .int .i64 a0_2, .string a0_3, .string a0_4, .bool a0_5] 29 ?_; intro gb368 hg w67 hbox hb; have BK368 := ak hbox; have GW368 := gs hg (bl HB.out); have GE368 := gs hg (bl HB.out); replace HB := ak (below_step (bl HB.out) hb); clear hb hbox hg; obtain ⟨_, _, _, _, _, _, _, _, _, _, _, _⟩ := b6 BK368.out) | (go_at_call 78; (with_reducible refine (impl_within.calls (a0_1.size : Int) 1 60 true _ A3.out).mono ?_); rintro e w' ⟨rfl, ⟨nd, rfl⟩⟩) | (go_at_call 79; (with_reducible refine (impl_areBytes_80.calls a0_1  true _ A5.out).mono ?_); rintro e w69 ⟨rfl, hb⟩; replace BK368 := ak (blk_below (bk BK368.out) hb); replace HB := ak (below_step (bl1 HB.out GE368.out) hb); clear hb; obtain ⟨_, _, _, _, _, _, _, _, _, _, _, _⟩ := b6 BK368.out) | (go_at_call 78; (with_reducible refine (impl_within.calls a0_2 0 65535 true _ A7.out).mono ?_); rintro e w' ⟨rfl, ⟨nd, rfl⟩⟩) | (go_at_call 82; (with_reducible refine (strings_HasPrefix.calls a0_3 (⟨#[47]⟩ : ByteArray) false _ A9.out).mono ?_); rintro e w71 ⟨rfl, hb⟩; replace BK368 := ak (blk_below (bk BK368.out) hb); replace HB := ak (below_step (bl1 HB.out GE368.out) hb); clear hb))
      go_ret
      exact rz (bl1 HB.out GE368.out)
    ·replace c8 := Bool.eq_false_iff.mpr c8
     subst c8
     rw [if_neg ff] at H
     obtain rfl := Option.some.inj H
     go_enter Tryz.func40, Tryz.ntmps40
     go_wp2_with (first | ((with_reducible refine gd 1 ?_); (try (refine gate_guard (by rfl) ?_; dsimp only)); refine bE 1 #[.string a0_0, .string a0_1, .int .i64 a0_2, .string a0_3, .string a0_4, .bool a0_5] 29 ?_; intro gb368 hg w72 hbox hb; have BK368 := ak hbox; have GW368 := gs hg (bl HB.out); have GE368 := gs hg (bl HB.out); replace HB := ak (below_step (bl HB.out) hb); clear hb hbox hg; obtain ⟨_, _, _, _, _, _, _, _, _, _, _, _⟩ := b6 BK368.out) | (go_at_call 78; (with_reducible refine (impl_within.calls (a0_1.size : Int) 1 60 true _ A3.out).mono ?_); rintro e w' ⟨rfl, ⟨nd, rfl⟩⟩) | (go_at_call 79; (with_reducible refine (impl_areBytes_80.calls a0_1  true _ A5.out).mono ?_); rintro e w74 ⟨rfl, hb⟩; replace BK368 := ak (blk_below (bk BK368.out) hb); replace HB := ak (below_step (bl1 HB.out GE368.out) hb); clear hb; obtain ⟨_, _, _, _, _, _, _, _, _, _, _, _⟩ := b6 BK368.out) | (go_at_call 78; (with_reducible refine (impl_within.calls a0_2 0 65535 false _ A7.out).mono ?_); rintro e w' ⟨rfl, ⟨nd, rfl⟩⟩))
     go_ret
     exact rz (bl1 HB.out GE368.out)
   ·replace c6 := Bool.eq_false_iff.mpr c6
    subst c6
    rw [if_neg ff] at H
    obtain rfl := Option.some.inj H
    go_enter Tryz.func40, Tryz.ntmps40
    go_wp2_with (first | ((with_reducible refine gd 1 ?_); (try (refine gate_guard (by rfl) ?_; dsimp only)); refine bE 1 #[.string a0_0, .string a0_1, .int .i64 a0_2, .string a0_3, .string a0_4, .bool a0_5] 29 ?_; intro gb368 hg w76 hbox hb; have BK368 := ak hbox; have GW368 := gs hg (bl HB.out); have GE368 := gs hg (bl HB.out); replace HB := ak (below_step (bl HB.out) hb); clear hb hbox hg; obtain ⟨_, _, _, _, _, _, _, _, _, _, _, _⟩ := b6 BK368.out) | (go_at_call 78; (with_reducible refine (impl_within.calls (a0_1.size : Int) 1 60 true _ A3.out).mono ?_); rintro e w' ⟨rfl, ⟨nd, rfl⟩⟩) | (go_at_call 79; (with_reducible refine (impl_areBytes_80.calls a0_1  false _ A5.out).mono ?_); rintro e w78 ⟨rfl, hb⟩; replace BK368 := ak (blk_below (bk BK368.out) hb); replace HB := ak (below_step (bl1 HB.out GE368.out) hb); clear hb))
    go_ret
    exact rz (bl1 HB.out GE368.out)
  ·replace c4 := Bool.eq_false_iff.mpr c4
   subst c4
   rw [if_neg ff] at H
   obtain rfl := Option.some.inj H
   go_enter Tryz.func40, Tryz.ntmps40
   go_wp2_with (first | ((with_reducible refine gd 1 ?_); (try (refine gate_guard (by rfl) ?_; dsimp only)); refine bE 1 #[.string a0_0, .string a0_1, .int .i64 a0_2, .string a0_3, .string a0_4, .bool a0_5] 29 ?_; intro gb368 hg w79 hbox hb; have BK368 := ak hbox; have GW368 := gs hg (bl HB.out); have GE368 := gs hg (bl HB.out); replace HB := ak (below_step (bl HB.out) hb); clear hb hbox hg; obtain ⟨_, _, _, _, _, _, _, _, _, _, _, _⟩ := b6 BK368.out) | (go_at_call 78; (with_reducible refine (impl_within.calls (a0_1.size : Int) 1 60 false _ A3.out).mono ?_); rintro e w' ⟨rfl, ⟨nd, rfl⟩⟩))
   go_ret
   exact rz (bl1 HB.out GE368.out)
 ·rw [if_neg c2] at H
  have c2b0 : (a0_0.toList == ([104, 116, 116, 112] : List UInt8)) = false := beq_eq_false_iff_ne.mpr c2
  have c2b1 : (a0_0.toList != ([104, 116, 116, 112] : List UInt8)) = true := bne_iff_ne.mpr c2
  by_cases c81 : a0_0.toList = ([104, 116, 116, 112, 115] : List UInt8)
  ·rw [if_pos c81] at H
   have c81b0 : (a0_0.toList == ([104, 116, 116, 112, 115] : List UInt8)) = true := beq_iff_eq.mpr c81
   have c81b1 : (a0_0.toList != ([104, 116, 116, 112, 115] : List UInt8)) = false := bne_eq_false_iff_eq.mpr c81
   clear c81
   replace H := bs H
   obtain ⟨t377, A82, H⟩ := H
   try dsimp only at H
   by_cases c83 : t377 = true
   ·subst c83
    rw [if_pos rfl] at H
    replace H := bs H
    obtain ⟨t378, A84, H⟩ := H
    try dsimp only at H
    by_cases c85 : t378 = true
    ·subst c85
     rw [if_pos rfl] at H
     replace H := bs H
     obtain ⟨t379, A86, H⟩ := H
     try dsimp only at H
     by_cases c87 : t379 = true
     ·subst c87
      rw [if_pos rfl] at H
      replace H := bs H
      obtain ⟨t380, A88, H⟩ := H
      try dsimp only at H
      by_cases c89 : t380 = true
      ·subst c89
       rw [if_pos rfl] at H
       replace H := bs H
       obtain ⟨t381, A90, H⟩ := H
       try dsimp only at H
       by_cases c91 : t381 = true
       ·subst c91
        rw [if_pos rfl] at H
        replace H := bs H
        obtain ⟨t382, A92, H⟩ := H
        try dsimp only at H
        by_cases c93 : t382 = true
        ·subst c93
         rw [if_pos rfl] at H
         by_cases c94 : a0_5 = true
         ·subst c94
          rw [if_pos rfl] at H
          replace H := bs H
          obtain ⟨t383, A95, H⟩ := H
          try dsimp only at H
          obtain rfl := Option.some.inj H
          go_enter Tryz.func40, Tryz.ntmps40
          go_wp2_with (first | ((with_reducible refine gd 1 ?_); (try (refine gate_guard (by rfl) ?_; dsimp only)); refine bE 1 #[.string a0_0, .string a0_1, .int .i64 a0_2, .string a0_3, .string a0_4, .bool true] 29 ?_; intro gb368 hg w96 hbox hb; have BK368 := ak hbox; have GW368 := gs hg (bl HB.out); have GE368 := gs hg (bl HB.out); replace HB := ak (below_step (bl HB.out) hb); clear hb hbox hg; obtain ⟨_, _, _, _, _, _, _, _, _, _, _, _⟩ := b6 BK368.out) | (go_at_call 78; (with_reducible refine (impl_within.calls (a0_1.size : Int) 1 60 true _ A82.out).mono ?_); rintro e w' ⟨rfl, ⟨nd, rfl⟩⟩) | (go_at_call 79; (with_reducible refine (impl_areBytes_80.calls a0_1  true _ A84.out).mono ?_); rintro e w98 ⟨rfl, hb⟩; replace BK368 := ak (blk_below (bk BK368.out) hb); replace HB := ak (below_step (bl1 HB.out GE368.out) hb); clear hb; obtain ⟨_, _, _, _, _, _, _, _, _, _, _, _⟩ := b6 BK368.out) | (go_at_call 78; (with_reducible refine (impl_within.calls a0_2 0 65535 true _ A86.out).mono ?_); rintro e w' ⟨rfl, ⟨nd, rfl⟩⟩) | (go_at_call 82; (with_reducible refine (strings_HasPrefix.calls a0_3 (⟨#[47]⟩ : ByteArray) true _ A88.out).mono ?_); rintro e w100 ⟨rfl, hb⟩; replace BK368 := ak (blk_below (bk BK368.out) hb); replace HB := ak (below_step (bl1 HB.out GE368.out) hb); clear hb; obtain ⟨_, _, _, _, _, _, _, _, _, _, _, _⟩ := b6 BK368.out) | (go_at_call 83; (with_reducible refine (impl_arePchars.calls k a0_3 (⟨#[47]⟩ : ByteArray) true _ A90.out).mono ?_); rintro e w102 ⟨rfl, hb⟩; replace BK368 := ak (blk_below (bk BK368.out) hb); replace HB := ak (below_step (bl1 HB.out GE368.out) hb); clear hb; obtain ⟨_, _, _, _, _, _, _, _, _, _, _, _⟩ := b6 BK368.out) | (go_at_call 83; (with_reducible refine (impl_arePchars.calls k a0_4 (⟨#[47, 63]⟩ : ByteArray) true _ A92.out).mono ?_); rintro e w104 ⟨rfl, hb⟩; replace BK368 := ak (blk_below (bk BK368.out) hb); replace HB := ak (below_step (bl1 HB.out GE368.out) hb); clear hb; obtain ⟨_, _, _, _, _, _, _, _, _, _, _, _⟩ := b6 BK368.out) | (go_at_call 84; (with_reducible refine (impl_urlText.calls a0_0 a0_1 a0_2 a0_3 a0_4 true t383 _ A95.out (globg HT.out (bl1 HB.out GE368.out))).mono ?_); rintro e w106 ⟨rfl, hb⟩; replace BK368 := ak (blk_below (bk BK368.out) hb); replace HB := ak (below_step (bl1 HB.out GE368.out) hb); clear hb))
          go_ret
          exact rz (bl1 HB.out GE368.out)
         ·replace c94 := Bool.eq_false_iff.mpr c94
          subst c94
          rw [if_neg ff] at H
          by_cases c107 : a0_4.toList = ([] : List UInt8)
          ·rw [if_pos c107] at H
           have c107b0 : (a0_4.toList == ([] : List UInt8)) = true := beq_iff_eq.mpr c107
           have c107b1 : (a0_4.toList != ([] : List UInt8)) = false := bne_eq_false_iff_eq.mpr c107
           clear c107
           replace H := bs H
           obtain ⟨t384, A108, H⟩ := H
           try dsimp only at H
           obtain rfl := Option.some.inj H
           go_enter Tryz.func40, Tryz.ntmps40
           go_wp2_with (first | ((with_reducible refine gd 1 ?_); (try (refine gate_guard (by rfl) ?_; dsimp only)); refine bE 1 #[.string a0_0, .string a0_1, .int .i64 a0_2, .string a0_3, .string a0_4, .bool false] 29 ?_; intro gb368 hg w109 hbox hb; have BK368 := ak hbox; have GW368 := gs hg (bl HB.out); have GE368 := gs hg (bl HB.out); replace HB := ak (below_step (bl HB.out) hb); clear hb hbox hg; obtain ⟨_, _, _, _, _, _, _, _, _, _, _, _⟩ := b6 BK368.out) | (go_at_call 78; (with_reducible refine (impl_within.calls (a0_1.size : Int) 1 60 true _ A82.out).mono ?_); rintro e w' ⟨rfl, ⟨nd, rfl⟩⟩) | (go_at_call 79; (with_reducible refine (impl_areBytes_80.calls a0_1  true _ A84.out).mono ?_); rintro e w111 ⟨rfl, hb⟩; replace BK368 := ak (blk_below (bk BK368.out) hb); replace HB := ak (below_step (bl1 HB.out GE368.out) hb); clear hb; obtain ⟨_, _, _, _, _, _, _, _, _, _, _, _⟩ := b6 BK368.out) | (go_at_call 78; (with_reducible refine (impl_within.calls a0_2 0 65535 true _ A86.out).mono ?_); rintro e w' ⟨rfl, ⟨nd, rfl⟩⟩) | (go_at_call 82; (with_reducible refine (strings_HasPrefix.calls a0_3 (⟨#[47]⟩ : ByteArray) true _ A88.out).mono ?_); rintro e w113 ⟨rfl, hb⟩; replace BK368 := ak (blk_below (bk BK368.out) hb); replace HB := ak (below_step (bl1 HB.out GE368.out) hb); clear hb; obtain ⟨_, _, _, _, _, _, _, _, _, _, _, _⟩ := b6 BK368.out) | (go_at_call 83; (with_reducible refine (impl_arePchars.calls k a0_3 (⟨#[47]⟩ : ByteArray) true _ A90.out).mono ?_); rintro e w115 ⟨rfl, hb⟩; replace BK368 := ak (blk_below (bk BK368.out) hb); replace HB := ak (below_step (bl1 HB.out GE368.out) hb); clear hb; obtain ⟨_, _, _, _, _, _, _, _, _, _, _, _⟩ := b6 BK368.out) | (go_at_call 83; (with_reducible refine (impl_arePchars.calls k a0_4 (⟨#[47, 63]⟩ : ByteArray) true _ A92.out).mono ?_); rintro e w117 ⟨rfl, hb⟩; replace BK368 := ak (blk_below (bk BK368.out) hb); replace HB := ak (below_step (bl1 HB.out GE368.out) hb); clear hb; obtain ⟨_, _, _, _, _, _, _, _, _, _, _, _⟩ := b6 BK368.out) | (go_at_call 84; (with_reducible refine (impl_urlText.calls a0_0 a0_1 a0_2 a0_3 a0_4 false t384 _ A108.out (globg HT.out (bl1 HB.out GE368.out))).mono ?_); rintro e w119 ⟨rfl, hb⟩; replace BK368 := ak (blk_below (bk BK368.out) hb); replace HB := ak (below_step (bl1 HB.out GE368.out) hb); clear hb))
           go_ret
           exact rz (bl1 HB.out GE368.out)
          ·rw [if_neg c107] at H
           have c107b0 : (a0_4.toList == ([] : List UInt8)) = false := beq_eq_false_iff_ne.mpr c107
           have c107b1 : (a0_4.toList != ([] : List UInt8)) = true := bne_iff_ne.mpr c107
           obtain rfl := Option.some.inj H
           go_enter Tryz.func40, Tryz.ntmps40
           go_wp2_with (first | ((with_reducible refine gd 1 ?_); (try (refine gate_guard (by rfl) ?_; dsimp only)); refine bE 1 #[.string a0_0, .string a0_1, .int .i64 a0_2, .string a0_3, .string a0_4, .bool false] 29 ?_; intro gb368 hg w120 hbox hb; have BK368 := ak hbox; have GW368 := gs hg (bl HB.out); have GE368 := gs hg (bl HB.out); replace HB := ak (below_step (bl HB.out) hb); clear hb hbox hg; obtain ⟨_, _, _, _, _, _, _, _, _, _, _, _⟩ := b6 BK368.out) | (go_at_call 78; (with_reducible refine (impl_within.calls (a0_1.size : Int) 1 60 true _ A82.out).mono ?_); rintro e w' ⟨rfl, ⟨nd, rfl⟩⟩) | (go_at_call 79; (with_reducible refine (impl_areBytes_80.calls a0_1  true _ A84.out).mono ?_); rintro e w122 ⟨rfl, hb⟩; replace BK368 := ak (blk_below (bk BK368.out) hb); replace HB := ak (below_step (bl1 HB.out GE368.out) hb); clear hb; obtain ⟨_, _, _, _, _, _, _, _, _, _, _, _⟩ := b6 BK368.out) | (go_at_call 78; (with_reducible refine (impl_within.calls a0_2 0 65535 true _ A86.out).mono ?_); rintro e w' ⟨rfl, ⟨nd, rfl⟩⟩) | (go_at_call 82; (with_reducible refine (strings_HasPrefix.calls a0_3 (⟨#[47]⟩ : ByteArray) true _ A88.out).mono ?_); rintro e w124 ⟨rfl, hb⟩; replace BK368 := ak (blk_below (bk BK368.out) hb); replace HB := ak (below_step (bl1 HB.out GE368.out) hb); clear hb; obtain ⟨_, _, _, _, _, _, _, _, _, _, _, _⟩ := b6 BK368.out) | (go_at_call 83; (with_reducible refine (impl_arePchars.calls k a0_3 (⟨#[47]⟩ : ByteArray) true _ A90.out).mono ?_); rintro e w126 ⟨rfl, hb⟩; replace BK368 := ak (blk_below (bk BK368.out) hb); replace HB := ak (below_step (bl1 HB.out GE368.out) hb); clear hb; obtain ⟨_, _, _, _, _, _, _, _, _, _, _, _⟩ := b6 BK368.out) | (go_at_call 83; (with_reducible refine (impl_arePchars.calls k a0_4 (⟨#[47, 63]⟩ : ByteArray) true _ A92.out).mono ?_); rintro e w128 ⟨rfl, hb⟩; replace BK368 := ak (blk_below (bk BK368.out) hb); replace HB := ak (below_step (bl1 HB.out GE368.out) hb); clear hb; obtain ⟨_, _, _, _, _, _, _, _, _, _, _, _⟩ := b6 BK368.out))
           go_ret
           exact rz (bl1 HB.out GE368.out)
        ·replace c93 := Bool.eq_false_iff.mpr c93
         subst c93
         rw [if_neg ff] at H
         obtain rfl := Option.some.inj H
         go_enter Tryz.func40, Tryz.ntmps40
         go_wp2_with (first | ((with_reducible refine gd 1 ?_); (try (refine gate_guard (by rfl) ?_; dsimp only)); refine bE 1 #[.string a0_0, .string a0_1, .int .i64 a0_2, .string a0_3, .string a0_4, .bool a0_5] 29 ?_; intro gb368 hg w130 hbox hb; have BK368 := ak hbox; have GW368 := gs hg (bl HB.out); have GE368 := gs hg (bl HB.out); replace HB := ak (below_step (bl HB.out) hb); clear hb hbox hg; obtain ⟨_, _, _, _, _, _, _, _, _, _, _, _⟩ := b6 BK368.out) | (go_at_call 78; (with_reducible refine (impl_within.calls (a0_1.size : Int) 1 60 true _ A82.out).mono ?_); rintro e w' ⟨rfl, ⟨nd, rfl⟩⟩) | (go_at_call 79; (with_reducible refine (impl_areBytes_80.calls a0_1  true _ A84.out).mono ?_); rintro e w132 ⟨rfl, hb⟩; replace BK368 := ak (blk_below (bk BK368.out) hb); replace HB := ak (below_step (bl1 HB.out GE368.out) hb); clear hb; obtain ⟨_, _, _, _, _, _, _, _, _, _, _, _⟩ := b6 BK368.out) | (go_at_call 78; (with_reducible refine (impl_within.calls a0_2 0 65535 true _ A86.out).mono ?_); rintro e w' ⟨rfl, ⟨nd, rfl⟩⟩) | (go_at_call 82; (with_reducible refine (strings_HasPrefix.calls a0_3 (⟨#[47]⟩ : ByteArray) true _ A88.out).mono ?_); rintro e w134 ⟨rfl, hb⟩; replace BK368 := ak (blk_below (bk BK368.out) hb); replace HB := ak (below_step (bl1 HB.out GE368.out) hb); clear hb; obtain ⟨_, _, _, _, _, _, _, _, _, _, _, _⟩ := b6 BK368.out) | (go_at_call 83; (with_reducible refine (impl_arePchars.calls k a0_3 (⟨#[47]⟩ : ByteArray) true _ A90.out).mono ?_); rintro e w136 ⟨rfl, hb⟩; replace BK368 := ak (blk_below (bk BK368.out) hb); replace HB := ak (below_step (bl1 HB.out GE368.out) hb); clear hb; obtain ⟨_, _, _, _, _, _, _, _, _, _, _, _⟩ := b6 BK368.out) | (go_at_call 83; (with_reducible refine (impl_arePchars.calls k a0_4 (⟨#[47, 63]⟩ : ByteArray) false _ A92.out).mono ?_); rintro e w138 ⟨rfl, hb⟩; replace BK368 := ak (blk_below (bk BK368.out) hb); replace HB := ak (below_step (bl1 HB.out GE368.out) hb); clear hb))
         go_ret
         exact rz (bl1 HB.out GE368.out)
       ·replace c91 := Bool.eq_false_iff.mpr c91
        subst c91
        rw [if_neg ff] at H
        obtain rfl := Option.some.inj H
        go_enter Tryz.func40, Tryz.ntmps40
        go_wp2_with (first | ((with_reducible refine gd 1 ?_); (try (refine gate_guard (by rfl) ?_; dsimp only)); refine bE 1 #[.string a0_0, .string a0_1, .int .i64 a0_2, .string a0_3, .string a0_4, .bool a0_5] 29 ?_; intro gb368 hg w139 hbox hb; have BK368 := ak hbox; have GW368 := gs hg (bl HB.out); have GE368 := gs hg (bl HB.out); replace HB := ak (below_step (bl HB.out) hb); clear hb hbox hg; obtain ⟨_, _, _, _, _, _, _, _, _, _, _, _⟩ := b6 BK368.out) | (go_at_call 78; (with_reducible refine (impl_within.calls (a0_1.size : Int) 1 60 true _ A82.out).mono ?_); rintro e w' ⟨rfl, ⟨nd, rfl⟩⟩) | (go_at_call 79; (with_reducible refine (impl_areBytes_80.calls a0_1  true _ A84.out).mono ?_); rintro e w141 ⟨rfl, hb⟩; replace BK368 := ak (blk_below (bk BK368.out) hb); replace HB := ak (below_step (bl1 HB.out GE368.out) hb); clear hb; obtain ⟨_, _, _, _, _, _, _, _, _, _, _, _⟩ := b6 BK368.out) | (go_at_call 78; (with_reducible refine (impl_within.calls a0_2 0 65535 true _ A86.out).mono ?_); rintro e w' ⟨rfl, ⟨nd, rfl⟩⟩) | (go_at_call 82; (with_reducible refine (strings_HasPrefix.calls a0_3 (⟨#[47]⟩ : ByteArray) true _ A88.out).mono ?_); rintro e w143 ⟨rfl, hb⟩; replace BK368 := ak (blk_below (bk BK368.out) hb); replace HB := ak (below_step (bl1 HB.out GE368.out) hb); clear hb; obtain ⟨_, _, _, _, _, _, _, _, _, _, _, _⟩ := b6 BK368.out) | (go_at_call 83; (with_reducible refine (impl_arePchars.calls k a0_3 (⟨#[47]⟩ : ByteArray) false _ A90.out).mono ?_); rintro e w145 ⟨rfl, hb⟩; replace BK368 := ak (blk_below (bk BK368.out) hb); replace HB := ak (below_step (bl1 HB.out GE368.out) hb); clear hb))
        go_ret
        exact rz (bl1 HB.out GE368.out)
      ·replace c89 := Bool.eq_false_iff.mpr c89
       subst c89
       rw [if_neg ff] at H
       obtain rfl := Option.some.inj H
       go_enter Tryz.func40, Tryz.ntmps40
       go_wp2_with (first | ((with_reducible refine gd 1 ?_); (try (refine gate_guard (by rfl) ?_; dsimp only)); refine bE 1 #[.string a0_0, .string a0_1, .int .i64 a0_2, .string a0_3, .string a0_4, .bool a0_5] 29 ?_; intro gb368 hg w146 hbox hb; have BK368 := ak hbox; have GW368 := gs hg (bl HB.out); have GE368 := gs hg (bl HB.out); replace HB := ak (below_step (bl HB.out) hb); clear hb hbox hg; obtain ⟨_, _, _, _, _, _, _, _, _, _, _, _⟩ := b6 BK368.out) | (go_at_call 78; (with_reducible refine (impl_within.calls (a0_1.size : Int) 1 60 true _ A82.out).mono ?_); rintro e w' ⟨rfl, ⟨nd, rfl⟩⟩) | (go_at_call 79; (with_reducible refine (impl_areBytes_80.calls a0_1  true _ A84.out).mono ?_); rintro e w148 ⟨rfl, hb⟩; replace BK368 := ak (blk_below (bk BK368.out) hb); replace HB := ak (below_step (bl1 HB.out GE368.out) hb); clear hb; obtain ⟨_, _, _, _, _, _, _, _, _, _, _, _⟩ := b6 BK368.out) | (go_at_call 78; (with_reducible refine (impl_within.calls a0_2 0 65535 true _ A86.out).mono ?_); rintro e w' ⟨rfl, ⟨nd, rfl⟩⟩) | (go_at_call 82; (with_reducible refine (strings_HasPrefix.calls a0_3 (⟨#[47]⟩ : ByteArray) false _ A88.out).mono ?_); rintro e w150 ⟨rfl, hb⟩; replace BK368 := ak (blk_below (bk BK368.out) hb); replace HB := ak (below_step (bl1 HB.out GE368.out) hb); clear hb))
       go_ret
       exact rz (bl1 HB.out GE368.out)
     ·replace c87 := Bool.eq_false_iff.mpr c87
      subst c87
      rw [if_neg ff] at H
      obtain rfl := Option.some.inj H
      go_enter Tryz.func40, Tryz.ntmps40
      go_wp2_with (first | ((with_reducible refine gd 1 ?_); (try (refine gate_guard (by rfl) ?_; dsimp only)); refine bE 1 #[.string a0_0, .string a0_1, .int .i64 a0_2, .string a0_3, .string a0_4, .bool a0_5] 29 ?_; intro gb368 hg w151 hbox hb; have BK368 := ak hbox; have GW368 := gs hg (bl HB.out); have GE368 := gs hg (bl HB.out); replace HB := ak (below_step (bl HB.out) hb); clear hb hbox hg; obtain ⟨_, _, _, _, _, _, _, _, _, _, _, _⟩ := b6 BK368.out) | (go_at_call 78; (with_reducible refine (impl_within.calls (a0_1.size : Int) 1 60 true _ A82.out).mono ?_); rintro e w' ⟨rfl, ⟨nd, rfl⟩⟩) | (go_at_call 79; (with_reducible refine (impl_areBytes_80.calls a0_1  true _ A84.out).mono ?_); rintro e w153 ⟨rfl, hb⟩; replace BK368 := ak (blk_below (bk BK368.out) hb); replace HB := ak (below_step (bl1 HB.out GE368.out) hb); clear hb; obtain ⟨_, _, _, _, _, _, _, _, _, _, _, _⟩ := b6 BK368.out) | (go_at_call 78; (with_reducible refine (impl_within.calls a0_2 0 65535 false _ A86.out).mono ?_); rintro e w' ⟨rfl, ⟨nd, rfl⟩⟩))
      go_ret
      exact rz (bl1 HB.out GE368.out)
    ·replace c85 := Bool.eq_false_iff.mpr c85
     subst c85
     rw [if_neg ff] at H
     obtain rfl := Option.some.inj H
     go_enter Tryz.func40, Tryz.ntmps40
     go_wp2_with (first | ((with_reducible refine gd 1 ?_); (try (refine gate_guard (by rfl) ?_; dsimp only)); refine bE 1 #[.string a0_0, .string a0_1, .int .i64 a0_2, .string a0_3, .string a0_4, .bool a0_5] 29 ?_; intro gb368 hg w155 hbox hb; have BK368 := ak hbox; have GW368 := gs hg (bl HB.out); have GE368 := gs hg (bl HB.out); replace HB := ak (below_step (bl HB.out) hb); clear hb hbox hg; obtain ⟨_, _, _, _, _, _, _, _, _, _, _, _⟩ := b6 BK368.out) | (go_at_call 78; (with_reducible refine (impl_within.calls (a0_1.size : Int) 1 60 true _ A82.out).mono ?_); rintro e w' ⟨rfl, ⟨nd, rfl⟩⟩) | (go_at_call 79; (with_reducible refine (impl_areBytes_80.calls a0_1  false _ A84.out).mono ?_); rintro e w157 ⟨rfl, hb⟩; replace BK368 := ak (blk_below (bk BK368.out) hb); replace HB := ak (below_step (bl1 HB.out GE368.out) hb); clear hb))
     go_ret
     exact rz (bl1 HB.out GE368.out)
   ·replace c83 := Bool.eq_false_iff.mpr c83
    subst c83
    rw [if_neg ff] at H
    obtain rfl := Option.some.inj H
    go_enter Tryz.func40, Tryz.ntmps40
    go_wp2_with (first | ((with_reducible refine gd 1 ?_); (try (refine gate_guard (by rfl) ?_; dsimp only)); refine bE 1 #[.string a0_0, .string a0_1, .int .i64 a0_2, .string a0_3, .string a0_4, .bool a0_5] 29 ?_; intro gb368 hg w158 hbox hb; have BK368 := ak hbox; have GW368 := gs hg (bl HB.out); have GE368 := gs hg (bl HB.out); replace HB := ak (below_step (bl HB.out) hb); clear hb hbox hg; obtain ⟨_, _, _, _, _, _, _, _, _, _, _, _⟩ := b6 BK368.out) | (go_at_call 78; (with_reducible refine (impl_within.calls (a0_1.size : Int) 1 60 false _ A82.out).mono ?_); rintro e w' ⟨rfl, ⟨nd, rfl⟩⟩))
    go_ret
    exact rz (bl1 HB.out GE368.out)
  ·rw [if_neg c81] at H
   have c81b0 : (a0_0.toList == ([104, 116, 116, 112, 115] : List UInt8)) = false := beq_eq_false_iff_ne.mpr c81
   have c81b1 : (a0_0.toList != ([104, 116, 116, 112, 115] : List UInt8)) = true := bne_iff_ne.mpr c81
   obtain rfl := Option.some.inj H
   go_enter Tryz.func40, Tryz.ntmps40
   go_wp2_with (first | ((with_reducible refine gd 1 ?_); (try (refine gate_guard (by rfl) ?_; dsimp only)); refine bE 1 #[.string a0_0, .string a0_1, .int .i64 a0_2, .string a0_3, .string a0_4, .bool a0_5] 29 ?_; intro gb368 hg w160 hbox hb; have BK368 := ak hbox; have GW368 := gs hg (bl HB.out); have GE368 := gs hg (bl HB.out); replace HB := ak (below_step (bl HB.out) hb); clear hb hbox hg; obtain ⟨_, _, _, _, _, _, _, _, _, _, _, _⟩ := b6 BK368.out))
   go_ret
   exact rz (bl1 HB.out GE368.out)

/-! ### impl_isTime: function 41 -/
def impl_isTime.f (a0 : Int) : Option (Bool) := (impl_within.f a0 0 253402300799).bind fun t385 => (some t385)
set_option maxHeartbeats 8000000 in
set_option maxRecDepth 100000 in
theorem impl_isTime.calls (a0 : Int) (r : Bool) (w : World) (h : impl_isTime.f a0 = some r) :
  Calls Tryz.prog 41 #[.int .i64 a0] w fun e w' => e = .returned (.bool r) ∧ Drawn0 w w' := by
 have H : ((impl_within.f a0 0 253402300799).bind fun t385 => (some t385)) = some r := h
 clear h
 replace H := bs H
 obtain ⟨t385, A2, H⟩ := H
 try dsimp only at H
 obtain rfl := Option.some.inj H
 go_enter Tryz.func41, Tryz.ntmps41
 go_wp2_with (first | ((with_reducible refine gc 78 ?_); refine gL 78 Tryz.func78 (some 4) #[.int .i64 a0, .int .i64 0, .int .i64 253402300799] ?_; (with_reducible refine (impl_within.calls a0 0 253402300799 t385 _ A2.out).mono ?_); rintro e w' ⟨rfl, ⟨nd, rfl⟩⟩; refine ⟨_, rfl, ?_⟩))
 go_ret
 exact ⟨by first | rfl | (simp; done) | (simp [*]; done) | (simp only [Ending.returned.injEq, Value.tuple.injEq, i64_w]; rfl) | (simp [i64_w]; rfl), by repeat (first | exact Drawn0.refl _ | apply Drawn0.step)⟩

-- NOT PRINTED: function 131 (impl_Item_131)

-- NOT PRINTED: function 85 (impl_Item_85)

-- NOT PRINTED: function 86 (impl_Item_1)

-- NOT PRINTED: function 43 (impl_Item_43)

-- NOT PRINTED: function 196 (impl_Field_196)

-- NOT PRINTED: function 174 (impl_Field_174)

-- NOT PRINTED: function 175 (impl_Field_1)

-- NOT PRINTED: function 140 (impl_Field_140)

/-! ### impl_isToken_1: function 180 -/
def impl_isToken_1.f (a0 : Int) : Option (Bool) := (impl_isAmong.f a0 (⟨#[33, 35, 36, 37, 38, 39, 42, 43, 45, 46, 94, 95, 124, 126, 96]⟩ : ByteArray)).bind fun t386 => (some t386)
set_option maxHeartbeats 8000000 in
set_option maxRecDepth 100000 in
theorem impl_isToken_1.calls (a0 : Int) (r : Bool) (w : World) (h : impl_isToken_1.f a0 = some r) :
  Calls Tryz.prog 180 #[.int .u8 a0] w fun e w' => e = .returned (.bool r) ∧ Below w.heap.size w w' := by
 have HB := ak (Below.refl w.heap.size w)
 unfold impl_isToken_1.f at h; have H := h
 clear h
 replace H := bs H
 obtain ⟨t386, A2, H⟩ := H
 try dsimp only at H
 obtain rfl := Option.some.inj H
 go_enter Tryz.func180, Tryz.ntmps180
 go_wp2_with (first | ((with_reducible refine gc 81 ?_); refine gL 81 Tryz.func81 (some 4) #[.int .u8 a0, .string (⟨#[33, 35, 36, 37, 38, 39, 42, 43, 45, 46, 94, 95, 124, 126, 96]⟩ : ByteArray)] ?_; (with_reducible refine (impl_isAmong.calls a0 (⟨#[33, 35, 36, 37, 38, 39, 42, 43, 45, 46, 94, 95, 124, 126, 96]⟩ : ByteArray) t386 _ A2.out).mono ?_); rintro e w3 ⟨rfl, hb⟩; refine ⟨_, rfl, ?_⟩; replace HB := ak (below_step (bl HB.out) hb); clear hb))
 go_ret
 exact rz (bl HB.out)


/-! ### impl_areBytes_180: function 79 at the predicate 180 -/
def impl_areBytes_180.f (a0 : ByteArray) : Option Bool := if a0.size ≤ 9223372036854775807 then allO (fun x => impl_isToken_1.f x) (bytesOf a0) else none
set_option maxHeartbeats 800000 in
set_option maxRecDepth 100000 in
theorem impl_areBytes_180.calls (a0 : ByteArray) (r : Bool) (w : World) (h : impl_areBytes_180.f a0 = some r) :
  Calls Tryz.prog 79 #[.string a0, .func (.func 180) #[] #[]] w fun e w' => e = .returned (.bool r) ∧ Below w.heap.size w w' := by
 unfold impl_areBytes_180.f at h
 split at h
 ·rename_i hm
  have HR := Kd.C_of_reads (d := (0 : Int)) (h1 := fun _ => rfl) (bytes_reads w 5 a0 hm)
  have HB := ak (bytes_below (Below.refl w.heap.size w) (Nat.le_refl _) 5 a0)
  have hcall := areAll_g124.all 180 (fun x => impl_isToken_1.f x) (fun x r w h => by
   refine (impl_isToken_1.calls x r w h).mono ?_
   rintro e w' ⟨rfl, hb⟩
   exact ⟨rfl, hb⟩) (enters_of Tryz.func180 (by kernel_rfl) rfl) (some ⟨w.heap.size, 0, none⟩) (grownCap w a0.size 0 5) (bytesOf a0) r (Lib.bytesWorld w 5 a0) (by rw [bytesOf_length]; exact HR) h
  rw [bytesOf_length] at hcall
  have HC := ak hcall
  clear h hcall HR
  have kb := fun W => print_bytes (P := Tryz.prog) 9 66 5 Tryz.underlying9 Tryz.underlying66 Tryz.underlying5 a0 W
  go_enter Tryz.func79, Tryz.ntmps79
  go_wp2_with (go_at_call 124; refine HC.out.mono ?_; rintro e w' ⟨rfl, hb⟩)
  go_ret
  exact ⟨rfl, below_then HB.out (by rw [Lib.bytesWorld_size]; omega) hb⟩
 ·cases h


/-! ### impl_isToken: function 144 -/
def impl_isToken.f (a0 : ByteArray) : Option (Bool) := (impl_within.f (a0.size : Int) 1 60).bind fun t388 => (if t388 = true then ((impl_areBytes_180.f a0).bind fun t389 => (some t389)) else (some false))
set_option maxHeartbeats 8000000 in
set_option maxRecDepth 100000 in
theorem impl_isToken.calls (a0 : ByteArray) (r : Bool) (w : World) (h : impl_isToken.f a0 = some r) :
  Calls Tryz.prog 144 #[.string a0] w fun e w' => e = .returned (.bool r) ∧ Below w.heap.size w w' := by
 have HB := ak (Below.refl w.heap.size w)
 unfold impl_isToken.f at h; have H := h
 clear h
 replace H := bs H
 obtain ⟨t388, A2, H⟩ := H
 try dsimp only at H
 by_cases c3 : t388 = true
 ·subst c3
  rw [if_pos rfl] at H
  replace H := bs H
  obtain ⟨t389, A4, H⟩ := H
  try dsimp only at H
  obtain rfl := Option.some.inj H
  go_enter Tryz.func144, Tryz.ntmps144
  go_wp2_with (first | ((with_reducible refine gc 78 ?_); refine gL 78 Tryz.func78 (some 5) #[.int .i64 (a0.size : Int), .int .i64 1, .int .i64 60] ?_; (with_reducible refine (impl_within.calls (a0.size : Int) 1 60 true _ A2.out).mono ?_); rintro e w' ⟨rfl, ⟨nd, rfl⟩⟩; refine ⟨_, rfl, ?_⟩) | (go_at_call 79; (with_reducible refine (impl_areBytes_180.calls a0  t389 _ A4.out).mono ?_); rintro e w5 ⟨rfl, hb⟩; replace HB := ak (below_step (bl HB.out) hb); clear hb))
  go_ret
  exact rz (bl HB.out)
 ·replace c3 := Bool.eq_false_iff.mpr c3
  subst c3
  rw [if_neg ff] at H
  obtain rfl := Option.some.inj H
  go_enter Tryz.func144, Tryz.ntmps144
  go_wp2_with (first | ((with_reducible refine gc 78 ?_); refine gL 78 Tryz.func78 (some 5) #[.int .i64 (a0.size : Int), .int .i64 1, .int .i64 60] ?_; (with_reducible refine (impl_within.calls (a0.size : Int) 1 60 false _ A2.out).mono ?_); rintro e w' ⟨rfl, ⟨nd, rfl⟩⟩; refine ⟨_, rfl, ?_⟩))
  go_ret
  exact rz (bl HB.out)

/-! ### impl_isPrinted_1: function 197 -/
def impl_isPrinted_1.f (a0 : Int) : Option (Bool) := if a0 ≥ 32 then (some (decide (a0 ≤ 126))) else (some false)
set_option maxHeartbeats 8000000 in
set_option maxRecDepth 100000 in
theorem impl_isPrinted_1.calls (a0 : Int) (r : Bool) (w : World) (h : impl_isPrinted_1.f a0 = some r) :
  Calls Tryz.prog 197 #[.int .u8 a0] w fun e w' => e = .returned (.bool r) ∧ Drawn0 w w' := by
 have H : (if a0 ≥ 32 then (some (decide (a0 ≤ 126))) else (some false)) = some r := h
 clear h
 by_cases c2 : a0 ≥ 32
 ·rw [if_pos c2] at H
  have c2b0 : decide (32 ≤ a0) = true := decide_eq_true c2
  clear c2
  obtain rfl := Option.some.inj H
  go_enter Tryz.func197, Tryz.ntmps197
  go_wp2
  go_ret
  exact ⟨by first | rfl | (simp; done) | (simp [*]; done) | (simp only [Ending.returned.injEq, Value.tuple.injEq, i64_w]; rfl) | (simp [i64_w]; rfl), by repeat (first | exact Drawn0.refl _ | apply Drawn0.step)⟩
 ·rw [if_neg c2] at H
  have c2b0 : decide (32 ≤ a0) = false := decide_eq_false c2
  clear c2
  obtain rfl := Option.some.inj H
  go_enter Tryz.func197, Tryz.ntmps197
  go_wp2
  go_ret
  exact ⟨by first | rfl | (simp; done) | (simp [*]; done) | (simp only [Ending.returned.injEq, Value.tuple.injEq, i64_w]; rfl) | (simp [i64_w]; rfl), by repeat (first | exact Drawn0.refl _ | apply Drawn0.step)⟩


/-! ### impl_areBytes_197: function 79 at the predicate 197 -/
def impl_areBytes_197.f (a0 : ByteArray) : Option Bool := if a0.size ≤ 9223372036854775807 then allO (fun x => impl_isPrinted_1.f x) (bytesOf a0) else none
set_option maxHeartbeats 800000 in
set_option maxRecDepth 100000 in
theorem impl_areBytes_197.calls (a0 : ByteArray) (r : Bool) (w : World) (h : impl_areBytes_197.f a0 = some r) :
  Calls Tryz.prog 79 #[.string a0, .func (.func 197) #[] #[]] w fun e w' => e = .returned (.bool r) ∧ Below w.heap.size w w' := by
 unfold impl_areBytes_197.f at h
 split at h
 ·rename_i hm
  have HR := Kd.C_of_reads (d := (0 : Int)) (h1 := fun _ => rfl) (bytes_reads w 5 a0 hm)
  have HB := ak (bytes_below (Below.refl w.heap.size w) (Nat.le_refl _) 5 a0)
  have hcall := areAll_g124.all 197 (fun x => impl_isPrinted_1.f x) (fun x r w h => by
   refine (impl_isPrinted_1.calls x r w h).mono ?_
   rintro e w' ⟨rfl, hb⟩
   exact ⟨rfl, hb.below⟩) (enters_of Tryz.func197 (by kernel_rfl) rfl) (some ⟨w.heap.size, 0, none⟩) (grownCap w a0.size 0 5) (bytesOf a0) r (Lib.bytesWorld w 5 a0) (by rw [bytesOf_length]; exact HR) h
  rw [bytesOf_length] at hcall
  have HC := ak hcall
  clear h hcall HR
  have kb := fun W => print_bytes (P := Tryz.prog) 9 66 5 Tryz.underlying9 Tryz.underlying66 Tryz.underlying5 a0 W
  go_enter Tryz.func79, Tryz.ntmps79
  go_wp2_with (go_at_call 124; refine HC.out.mono ?_; rintro e w' ⟨rfl, hb⟩)
  go_ret
  exact ⟨rfl, below_then HB.out (by rw [Lib.bytesWorld_size]; omega) hb⟩
 ·cases h


/-! ### impl_isPrinted: function 176 -/
def impl_isPrinted.f (a0 : ByteArray) (a1 : Int) : Option (Bool) := if (a0.size : Int) ≤ a1 then ((impl_areBytes_197.f a0).bind fun t390 => (some t390)) else (some false)
set_option maxHeartbeats 8000000 in
set_option maxRecDepth 100000 in
theorem impl_isPrinted.calls (a0 : ByteArray) (a1 : Int) (r : Bool) (w : World) (h : impl_isPrinted.f a0 a1 = some r) :
  Calls Tryz.prog 176 #[.string a0, .int .i64 a1] w fun e w' => e = .returned (.bool r) ∧ Below w.heap.size w w' := by
 have HB := ak (Below.refl w.heap.size w)
 unfold impl_isPrinted.f at h; have H := h
 clear h
 by_cases c3 : (a0.size : Int) ≤ a1
 ·rw [if_pos c3] at H
  have c3b0 := decide_eq_true c3
  clear c3
  replace H := bs H
  obtain ⟨t390, A4, H⟩ := H
  try dsimp only at H
  obtain rfl := Option.some.inj H
  go_enter Tryz.func176, Tryz.ntmps176
  go_wp2_with (first | (go_at_call 79; (with_reducible refine (impl_areBytes_197.calls a0  t390 _ A4.out).mono ?_); rintro e w5 ⟨rfl, hb⟩; replace HB := ak (below_step (bl HB.out) hb); clear hb))
  go_ret
  exact rz (bl HB.out)
 ·rw [if_neg c3] at H
  have c3b0 := decide_eq_false c3
  clear c3
  obtain rfl := Option.some.inj H
  go_enter Tryz.func176, Tryz.ntmps176
  go_wp2
  go_ret
  exact rz (bl HB.out)

-- NOT PRINTED: function 198 (strings_trimLeftByte)

-- NOT PRINTED: function 199 (strings_trimRightByte)

-- NOT PRINTED: function 200 (strings_makeASCIISet)

-- NOT PRINTED: function 225 (strings_asciiSet_contains)

-- NOT PRINTED: function 201 (strings_trimLeftASCII)

-- NOT PRINTED: function 202 (strings_trimRightASCII)

-- NOT PRINTED: function 241 (utf8_decodeRuneInStringSlow)

-- NOT PRINTED: function 226 (utf8_DecodeRuneInString)

/-! ### utf8_ValidRune: function 252 -/
def utf8_ValidRune.j0 : Nat → Int → Bool → Option (Bool)
 | 0, _, _ => none
 | k + 1, x0, x3 => if x3 = true then (some true) else (if 57343 < x0 then (if x0 ≤ 1114111 then (some true) else (some false)) else (some false))
def utf8_ValidRune.f (k : Nat) (a0 : Int) : Option (Bool) := if 0 ≤ a0 then (utf8_ValidRune.j0 k a0 (decide (a0 < 55296))) else (utf8_ValidRune.j0 k a0 false)
theorem utf8_ValidRune.mono_l : ∀ k, (∀ y0 y1, LeO (utf8_ValidRune.j0 k y0 y1) (utf8_ValidRune.j0 (k + 1) y0 y1))
 | 0 => fun _ _ r h => by simp [utf8_ValidRune.j0] at h
 | k + 1 => by
  have ih0 := utf8_ValidRune.mono_l k
  ·intro y0 y1
   unfold utf8_ValidRune.j0
   repeat' with_reducible first | exact ih0 _ _ | exact LeO.refl _ | exact LeO.none _ | refine LeO.ite ?_ ?_ | refine LeO.bind ?_ (fun _ => ?_)
theorem utf8_ValidRune.mono : ∀ a0 k, LeO (utf8_ValidRune.f k a0) (utf8_ValidRune.f (k + 1) a0) := by
 intro a0 k
 have ih0 := utf8_ValidRune.mono_l k
 unfold utf8_ValidRune.f
 repeat' with_reducible first | exact ih0 _ _ | exact LeO.refl _ | exact LeO.none _ | refine LeO.ite ?_ ?_ | refine LeO.bind ?_ (fun _ => ?_)
set_option maxHeartbeats 8000000 in
set_option maxRecDepth 100000 in
theorem utf8_ValidRune.calls (k : Nat) (a0 : Int) (r : Bool) (w : World) (h : utf8_ValidRune.f k a0 = some r) :
  Calls Tryz.prog 252 #[.int .i32 a0] w fun e w' => e = .returned (.bool r) ∧ Drawn0 w w' := by
 unfold utf8_ValidRune.f at h; have H := h
 clear h
 have HC2 := ak H
 clear H
 go_enter Tryz.func252, Tryz.ntmps252
 go_upto_region 1 with (fail)
 go_cut [3] (fun v3 wc => ∃ (kq : Nat) (x3_1 : Bool), v3 = .bool x3_1 ∧ Aside0 (utf8_ValidRune.j0 kq a0 x3_1 = some r) ∧ Aside0 (kq ≤ k) ∧ Drawn0 w wc)
 case first =>
  have H := HC2.out
  clear HC2
  by_cases c3 : 0 ≤ a0
  ·rw [if_pos c3] at H
   have c3b0 := decide_eq_true c3
   clear c3
   (first | rw [c3b0] | (simp only [i64_w, i32_w]; rw [c3b0]) | skip)
   have H' := ak H
   clear H
   go_wp2
   go_meet
   case rel => exact ⟨_, (decide (a0 < 55296)), (by first | rfl | (simp; done) | (simp [*]; done)), H', ⟨by first | omega | exact Nat.le_refl _⟩, by repeat (first | exact Drawn0.refl _ | apply Drawn0.step)⟩
  ·rw [if_neg c3] at H
   have c3b0 := decide_eq_false c3
   clear c3
   (first | rw [c3b0] | (simp only [i64_w, i32_w]; rw [c3b0]) | skip)
   have H' := ak H
   clear H
   go_wp2
   go_meet
   case rel => exact ⟨_, (false), (by first | rfl | (simp; done) | (simp [*]; done)), H', ⟨by first | omega | exact Nat.le_refl _⟩, by repeat (first | exact Drawn0.refl _ | apply Drawn0.step)⟩
 case rest =>
  clear HC2
  try clear c2
  try clear p2
  try clear c3
  try clear c3b0
  obtain ⟨kq, x3_1, rfl, HA, HJ1, ⟨mc1, rfl⟩⟩ := hcut
  cases kq with
  | zero => exact absurd HA.out (by simp [utf8_ValidRune.j0])
  | succ kj1 =>
   have H := HA.out
   clear HA
   simp only [utf8_ValidRune.j0] at H
   by_cases c4 : x3_1 = true
   ·subst c4
    rw [if_pos rfl] at H
    obtain rfl := Option.some.inj H
    go_wp2
    go_ret
    exact ⟨by first | rfl | (simp; done) | (simp [*]; done) | (simp only [Ending.returned.injEq, Value.tuple.injEq, i64_w]; rfl) | (simp [i64_w]; rfl), by repeat (first | exact Drawn0.refl _ | apply Drawn0.step)⟩
   ·replace c4 := Bool.eq_false_iff.mpr c4
    subst c4
    rw [if_neg ff] at H
    by_cases c5 : 57343 < a0
    ·rw [if_pos c5] at H
     have c5b0 := decide_eq_true c5
     clear c5
     by_cases c6 : a0 ≤ 1114111
     ·rw [if_pos c6] at H
      have c6b0 := decide_eq_true c6
      clear c6
      obtain rfl := Option.some.inj H
      go_wp2
      go_ret
      exact ⟨by first | rfl | (simp; done) | (simp [*]; done) | (simp only [Ending.returned.injEq, Value.tuple.injEq, i64_w]; rfl) | (simp [i64_w]; rfl), by repeat (first | exact Drawn0.refl _ | apply Drawn0.step)⟩
     ·rw [if_neg c6] at H
      have c6b0 := decide_eq_false c6
      clear c6
      obtain rfl := Option.some.inj H
      go_wp2
      go_ret
      exact ⟨by first | rfl | (simp; done) | (simp [*]; done) | (simp only [Ending.returned.injEq, Value.tuple.injEq, i64_w]; rfl) | (simp [i64_w]; rfl), by repeat (first | exact Drawn0.refl _ | apply Drawn0.step)⟩
    ·rw [if_neg c5] at H
     have c5b0 := decide_eq_false c5
     clear c5
     obtain rfl := Option.some.inj H
     go_wp2
     go_ret
     exact ⟨by first | rfl | (simp; done) | (simp [*]; done) | (simp only [Ending.returned.injEq, Value.tuple.injEq, i64_w]; rfl) | (simp [i64_w]; rfl), by repeat (first | exact Drawn0.refl _ | apply Drawn0.step)⟩

-- NOT PRINTED: function 253 (bytealg_Cutover)

-- NOT PRINTED: function 254 (bytealg_IndexString)

-- NOT PRINTED: function 242 (strings_IndexRune)

-- NOT PRINTED: function 227 (strings_ContainsRune)

-- NOT PRINTED: function 203 (strings_trimLeftUnicode)

/-! ### utf8_RuneStart: function 243 -/
def utf8_RuneStart.f (a0 : Int) : Option (Bool) := some ((Go.bits .and .u8 a0 192) != 128)
set_option maxHeartbeats 8000000 in
set_option maxRecDepth 100000 in
theorem utf8_RuneStart.calls (a0 : Int) (r : Bool) (w : World) (h : utf8_RuneStart.f a0 = some r) :
  Calls Tryz.prog 243 #[.int .u8 a0] w fun e w' => e = .returned (.bool r) ∧ Drawn0 w w' := by
 have H : (some ((Go.bits .and .u8 a0 192) != 128)) = some r := h
 clear h
 obtain rfl := Option.some.inj H
 go_enter Tryz.func243, Tryz.ntmps243
 go_wp2
 go_ret
 exact ⟨by first | rfl | (simp; done) | (simp [*]; done) | (simp only [Ending.returned.injEq, Value.tuple.injEq, i64_w]; rfl) | (simp [i64_w]; rfl), by repeat (first | exact Drawn0.refl _ | apply Drawn0.step)⟩

-- NOT PRINTED: function 228 (utf8_DecodeLastRuneInString)

-- NOT PRINTED: function 204 (strings_trimRightUnicode)

/-! ### strings_Trim (blanks): function 177 -/
def trimT (s : ByteArray) : ByteArray := ⟨(Lib.trimS s.data.toList [32]).toArray⟩
def strings_Trim.f (a0 : ByteArray) (a1 : ByteArray) : Option ByteArray := if a0.size ≤ 9223372036854775807 ∧ a1 = ⟨#[32]⟩ then some (trimT a0) else none
theorem strings_Trim.calls (a0 : ByteArray) (a1 : ByteArray) (r : ByteArray) (w : World) (h : strings_Trim.f a0 a1 = some r) :
  Calls Tryz.prog 177 #[.string a0, .string a1] w fun e w' => e = .returned (.string r) ∧ Below w.heap.size w w' := by
 unfold strings_Trim.f at h
 split at h
 ·rename_i hs
  obtain ⟨hs, rfl⟩ := hs
  obtain rfl := Option.some.inj h
  exact trTrim a0 ⟨#[32]⟩ w hs (by decide) (ascii_of_all (by decide))
 ·cases h


end Go.Proofs.YtlmnmakkojgfnaaGreatDoor.PFnExactKeptFor
